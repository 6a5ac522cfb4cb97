/- Greatest common divisors, fractions in lowest terms, and the first pair of wheels with a ratio: no program in sight. -/
import Derived.Test.YtkmakbjkapohlaaDoorLib
import Derived.Test.YtkmakbjkapohlaaDoorWMore
set_option linter.unusedVariables false
set_option linter.unusedSimpArgs false
namespace Go.Proofs.YtkmakbjkapohlaaDoor.Lib
open Go.RowKit Go.Proofs.YtkmakbjkapohlaaDoorW.PrintWords Go.Proofs.YtkmakbjkapohlaaDoorW.PrintMore

theorem gcd_step (x y : Int) (h : y ≠ 0) : Int.gcd x y = Int.gcd y (Int.tmod x y) := by
  rw [Int.gcd_eq_natAbs_gcd_natAbs, Int.gcd_eq_natAbs_gcd_natAbs, Int.natAbs_tmod, Nat.gcd_comm x.natAbs, Nat.gcd_rec, Nat.gcd_comm]
theorem tmod_small (x y : Int) (h : y ≠ 0) : (Int.tmod x y).natAbs < y.natAbs := by
  rw [Int.natAbs_tmod]
  exact Nat.mod_lt _ (by omega)
theorem mx_abs {x : Int} (h : x.natAbs ≤ 4611686018427387904) : mx x (wrap64 (-x)) = x.natAbs := by
  rw [w64 (by omega) (by omega)]
  unfold mx
  split <;> omega
/-- The program's common divisor, of whole numbers of either sign. -/
theorem gcd_gen {l0 : Nat → Int → Int → Option Int} (h : ∀ k x y, l0 (k + 1) x y = if y = 0 then (some (mx x (wrap64 (-x)))) else (l0 k y (Int.tmod x y))) :
    ∀ (n : Nat) (x y : Int), x.natAbs ≤ 4611686018427387904 → y.natAbs ≤ 4611686018427387904 → y.natAbs ≤ n → Ev (fun k => l0 k x y) (Int.gcd x y : Int) := by
  intro n
  induction n with
  | zero =>
    intro x y hx hy hn
    have e : y = 0 := by omega
    refine ev_one fun k => ?_
    rw [h, if_pos e, mx_abs hx, e, Int.gcd_zero_right]
  | succ n ih =>
    intro x y hx hy hn
    by_cases e : y = 0
    · refine ev_one fun k => ?_
      rw [h, if_pos e, mx_abs hx, e, Int.gcd_zero_right]
    · have t := tmod_small x y e
      refine ev_succ ?_
      have g : (fun k => l0 (k + 1) x y) = fun k => l0 k y (Int.tmod x y) := by
        funext k
        rw [h, if_neg e]
      rw [g, gcd_step x y e]
      exact ih y _ hy (by omega) (by omega)
/-- The reference's common divisor, of whole numbers of at least 0. -/
theorem common_gen {l0 : Nat → Int → Int → Option Int} (h : ∀ k x y, l0 (k + 1) x y = if y > 0 then (if y = 0 then (none) else (l0 k y (Int.tmod x y))) else (some x)) :
    ∀ (n : Nat) (x y : Int), 0 ≤ x → 0 ≤ y → y.natAbs ≤ n → Ev (fun k => l0 k x y) (Int.gcd x y : Int) := by
  intro n
  induction n with
  | zero =>
    intro x y hx hy hn
    have e : y = 0 := by omega
    refine ev_one fun k => ?_
    rw [h, if_neg (by omega), e, Int.gcd_zero_right, Int.natAbs_of_nonneg hx]
  | succ n ih =>
    intro x y hx hy hn
    by_cases e : y = 0
    · refine ev_one fun k => ?_
      rw [h, if_neg (by omega), e, Int.gcd_zero_right, Int.natAbs_of_nonneg hx]
    · have t := tmod_small x y e
      have t0 := Int.tmod_nonneg y hx
      refine ev_succ ?_
      have g : (fun k => l0 (k + 1) x y) = fun k => l0 k y (Int.tmod x y) := by
        funext k
        rw [h, if_pos (by omega), if_neg e]
      rw [g, gcd_step x y e]
      exact ih y _ hy t0 (by omega)
theorem tdiv_bd (a g : Int) : (Int.tdiv a g).natAbs ≤ a.natAbs := Int.natAbs_tdiv_le_natAbs a g
theorem gcd_pos {a b : Int} (h : b ≠ 0) : 1 ≤ (Int.gcd a b : Int) := by
  have := Int.gcd_pos_of_ne_zero_right a h
  omega
theorem gcd_abs (a b : Int) : Int.gcd (a.natAbs : Int) b = Int.gcd a b := by
  rw [Int.gcd_eq_natAbs_gcd_natAbs, Int.gcd_eq_natAbs_gcd_natAbs, Int.natAbs_natCast]
theorem mul_bd {a b A B : Int} (ha : 0 ≤ a) (hA : a ≤ A) (hb : 0 ≤ b) (hB : b ≤ B) : 0 ≤ a * b ∧ a * b ≤ A * B :=
  ⟨Int.mul_nonneg ha hb, Int.mul_le_mul hA hB hb (by omega)⟩
theorem mul_pos1 {a b : Int} (ha : 1 ≤ a) (hb : 1 ≤ b) : 1 ≤ a * b := by
  have : 0 < a * b := Int.mul_pos (by omega) (by omega)
  omega
/-- In lowest terms. -/
def lowN (a b : Int) : Int := a / (Int.gcd a b : Int)
def lowD (a b : Int) : Int := b / (Int.gcd a b : Int)
theorem low_tdiv (a b : Int) : Int.tdiv a (Int.gcd a b : Int) = lowN a b := Int.tdiv_eq_ediv_of_dvd (Int.gcd_dvd_left a b)
theorem low_tdiv' (a b : Int) : Int.tdiv b (Int.gcd a b : Int) = lowD a b := Int.tdiv_eq_ediv_of_dvd (Int.gcd_dvd_right a b)
theorem low_num (a b : Int) : lowN a b * (Int.gcd a b : Int) = a := Int.ediv_mul_cancel (Int.gcd_dvd_left a b)
theorem low_den (a b : Int) : lowD a b * (Int.gcd a b : Int) = b := Int.ediv_mul_cancel (Int.gcd_dvd_right a b)
theorem low_one {a b : Int} (h : b ≠ 0) : Int.gcd (lowN a b) (lowD a b) = 1 := Int.gcd_ediv_gcd_ediv_gcd (Int.gcd_pos_of_ne_zero_right a h)
theorem low_bdN (a b : Int) : (lowN a b).natAbs ≤ a.natAbs := by
  rw [← low_tdiv]
  exact tdiv_bd _ _
theorem low_bdD (a b : Int) : (lowD a b).natAbs ≤ b.natAbs := by
  rw [← low_tdiv']
  exact tdiv_bd _ _
theorem low_posD {a b : Int} (h : 1 ≤ b) : 1 ≤ lowD a b := by
  have g := gcd_pos (a := a) (b := b) (by omega)
  have e := low_den a b
  rcases Int.lt_or_le 0 (lowD a b) with c | c
  · omega
  · have : lowD a b * (Int.gcd a b : Int) ≤ 0 := Int.mul_nonpos_of_nonpos_of_nonneg c (by omega)
    omega
theorem low_posN {a b : Int} (h : 1 ≤ a) (hb : 1 ≤ b) : 1 ≤ lowN a b := by
  have g := gcd_pos (a := a) (b := b) (by omega)
  have e := low_num a b
  rcases Int.lt_or_le 0 (lowN a b) with c | c
  · omega
  · have : lowN a b * (Int.gcd a b : Int) ≤ 0 := Int.mul_nonpos_of_nonpos_of_nonneg c (by omega)
    omega
theorem low_scale {x y g : Int} (hg : 1 ≤ g) : lowN (x * g) (y * g) = lowN x y ∧ lowD (x * g) (y * g) = lowD x y := by
  have e : (Int.gcd (x * g) (y * g) : Int) = (Int.gcd x y : Int) * g := by
    rw [Int.gcd_mul_right, Int.natCast_mul, Int.natAbs_of_nonneg (by omega)]
  unfold lowN lowD
  rw [e]
  exact ⟨Int.mul_ediv_mul_of_pos_left _ _ (by omega), Int.mul_ediv_mul_of_pos_left _ _ (by omega)⟩
theorem low_step {n d p q : Int} (h : 1 ≤ d) : lowN (lowN n d * p) (lowD n d * q) = lowN (n * p) (d * q) ∧ lowD (lowN n d * p) (lowD n d * q) = lowD (n * p) (d * q) := by
  have g := gcd_pos (a := n) (b := d) (by omega)
  have s := low_scale (x := lowN n d * p) (y := lowD n d * q) g
  have e1 : lowN n d * p * (Int.gcd n d : Int) = n * p := by
    rw [Int.mul_right_comm, low_num]
  have e2 : lowD n d * q * (Int.gcd n d : Int) = d * q := by
    rw [Int.mul_right_comm, low_den]
  rw [e1, e2] at s
  exact ⟨s.1.symm, s.2.symm⟩
theorem lcm_dvd {a b c : Int} (ha : 1 ≤ a) (hb : 1 ≤ b) (h1 : a ∣ c) (h2 : b ∣ c) : lowN a b * b ∣ c ∧ 1 ≤ lowN a b * b := by
  have p := low_posN ha hb
  have g := gcd_pos (a := a) (b := b) (by omega)
  have e1 := low_num a b
  have e2 := low_den a b
  have c1 := low_one (a := a) (b := b) (by omega)
  refine ⟨?_, mul_pos1 p hb⟩
  obtain ⟨x, rfl⟩ := h2
  have d1 : lowN a b * (Int.gcd a b : Int) ∣ (lowD a b * x) * (Int.gcd a b : Int) := by
    rw [e1, Int.mul_right_comm, e2]
    exact h1
  have d2 : lowN a b ∣ lowD a b * x := Int.dvd_of_mul_dvd_mul_right (by omega) d1
  have d3 : lowN a b ∣ (Int.gcd (lowN a b) (lowD a b) : Int) * x := by
    rw [Int.dvd_gcd_mul_iff_dvd_mul]
    exact d2
  rw [c1] at d3
  have d4 : lowN a b ∣ x := by simpa using d3
  rw [Int.mul_comm]
  exact Int.mul_dvd_mul_left b d4
/-- A loop with a counter from i0 on that goes up to n and tells r there. -/
theorem scan_from {β : Type} {g : Int → Nat → Option β} {r : β} {n i0 : Int} (h1 : ∀ i, i0 ≤ i → i < n → Ev (g (i + 1)) r → Ev (g i) r) (h2 : Ev (g n) r) (hn : i0 ≤ n) : Ev (g i0) r := by
  have go : ∀ d : Nat, ∀ i, i0 ≤ i → i ≤ n → n - i = d → Ev (g i) r := by
    intro d
    induction d with
    | zero =>
      intro i h0 h3 h4
      obtain rfl : i = n := by omega
      exact h2
    | succ d ih =>
      intro i h0 h3 h4
      exact h1 i h0 (by omega) (ih (i + 1) (by omega) (by omega) (by omega))
  exact go (n - i0).toNat i0 (by omega) hn (by omega)
theorem leapsP_nn {e b y n : Int} (r : ruleOk e b y) (h : 0 ≤ n) : 0 ≤ leapsP e b y n := by
  have := leapsP_le (n := 0) (m := n) r h
  have z : leapsP e b y 0 = 0 := by
    unfold leapsP
    simp
  omega
/-! ### the first pair with a ratio -/
theorem hit_iff {num den i : Int} (hn : 1 ≤ num) (hd : 1 ≤ den) : (i * den) % num = 0 ↔ ∃ j, i = j * lowN num den := by
  have g := gcd_pos (a := num) (b := den) (by omega)
  have e1 := low_num num den
  have e2 := low_den num den
  have c := low_one (a := num) (b := den) (by omega)
  constructor
  · intro h
    have d : num ∣ i * den := Int.dvd_of_emod_eq_zero h
    rw [← e1] at d
    have d2 : lowN num den * (Int.gcd num den : Int) ∣ (i * lowD num den) * (Int.gcd num den : Int) := by
      rw [Int.mul_assoc, e2]
      exact d
    have d3 : lowN num den ∣ i * lowD num den := Int.dvd_of_mul_dvd_mul_right (by omega) d2
    have d4 : (lowN num den) ∣ (Int.gcd (lowN num den) (lowD num den) : Int) * i := by
      rw [Int.dvd_gcd_mul_iff_dvd_mul, Int.mul_comm]
      exact d3
    rw [c] at d4
    obtain ⟨j, hj⟩ := d4
    exact ⟨j, by rw [Int.mul_comm j, ← hj]; simp⟩
  · rintro ⟨j, rfl⟩
    refine Int.emod_eq_zero_of_dvd ⟨j * lowD num den, ?_⟩
    generalize lowN num den = n at *
    generalize lowD num den = d at *
    generalize (Int.gcd num den : Int) = q at *
    subst e1
    subst e2
    simp only [Int.mul_assoc, Int.mul_left_comm, Int.mul_comm]
theorem hit_div {num den j : Int} (hn : 1 ≤ num) (hd : 1 ≤ den) : (j * lowN num den * den) / num = j * lowD num den := by
  have e1 := low_num num den
  have e2 := low_den num den
  have : j * lowN num den * den = num * (j * lowD num den) := by
    generalize lowN num den = n at *
    generalize lowD num den = d at *
    generalize (Int.gcd num den : Int) = q at *
    subst e1
    subst e2
    simp only [Int.mul_assoc, Int.mul_left_comm, Int.mul_comm]
  rw [this, Int.mul_ediv_cancel_left _ (by omega)]
/-- The factor of the first pair. -/
def facP (num den : Int) : Int := max ((6 + lowN num den - 1) / lowN num den) ((6 + lowD num den - 1) / lowD num den)
theorem ceil6 {n j : Int} (h : 1 ≤ n) : (6 + n - 1) / n ≤ j ↔ 6 ≤ j * n := by
  rw [← Int.lt_add_one_iff, Int.ediv_lt_iff_lt_mul (by omega), Int.add_mul, Int.one_mul]
  omega
theorem facP_le {num den j : Int} (hn : 1 ≤ num) (hd : 1 ≤ den) : facP num den ≤ j ↔ 6 ≤ j * lowN num den ∧ 6 ≤ j * lowD num den := by
  have a := ceil6 (n := lowN num den) (j := j) (low_posN hn hd)
  have b := ceil6 (n := lowD num den) (j := j) (low_posD hd)
  unfold facP
  omega
theorem facP_bd {num den : Int} (hn : 1 ≤ num) (hd : 1 ≤ den) : 1 ≤ facP num den ∧ facP num den ≤ 6 := by
  have a1 := low_posN hn hd
  have b1 := low_posD (a := num) hd
  have h := (facP_le (num := num) (den := den) (j := 6) hn hd).2 (by omega)
  have h0 := (facP_le (num := num) (den := den) (j := 0) hn hd)
  omega
def fpA (num den : Int) : Int := facP num den * lowN num den
def fpB (num den : Int) : Int := facP num den * lowD num den
theorem fp_ge {num den : Int} (hn : 1 ≤ num) (hd : 1 ≤ den) : 6 ≤ fpA num den ∧ 6 ≤ fpB num den := (facP_le hn hd).1 (Int.le_refl _)
theorem fp_bd {num den : Int} (hn : 1 ≤ num) (hd : 1 ≤ den) : fpA num den ≤ 6 * num ∧ fpB num den ≤ 6 * den := by
  have a := facP_bd hn hd
  have a1 := low_posN hn hd
  have b1 := low_posD (a := num) hd
  have a2 := low_bdN num den
  have b2 := low_bdD num den
  exact ⟨(mul_bd (by omega) a.2 (by omega) (by omega)).2, (mul_bd (by omega) a.2 (by omega) (by omega)).2⟩
/-- Which drives are hit: just the multiples that make wheels. -/
theorem hit_least {num den i : Int} (hn : 1 ≤ num) (hd : 1 ≤ den) (hi : 6 ≤ i) (h : (i * den) % num = 0) (h6 : 6 ≤ (i * den) / num) : fpA num den ≤ i ∧ fpB num den ≤ (i * den) / num := by
  obtain ⟨j, rfl⟩ := (hit_iff hn hd).1 h
  rw [hit_div hn hd] at h6 ⊢
  have f := (facP_le (j := j) hn hd).2 ⟨hi, h6⟩
  have a1 := low_posN hn hd
  have b1 := low_posD (a := num) hd
  exact ⟨Int.mul_le_mul_of_nonneg_right f (by omega), Int.mul_le_mul_of_nonneg_right f (by omega)⟩
theorem hit_fp {num den : Int} (hn : 1 ≤ num) (hd : 1 ≤ den) : (fpA num den * den) % num = 0 ∧ (fpA num den * den) / num = fpB num den :=
  ⟨(hit_iff hn hd).2 ⟨facP num den, rfl⟩, hit_div hn hd⟩
end Go.Proofs.YtkmakbjkapohlaaDoor.Lib
