/- General lemmas about rounds, wrap-around, whole numbers and lists, with no program in sight. -/
import Derived.Test.YtkmakbjkapohlaaWWords
set_option linter.unusedVariables false
set_option linter.unusedSimpArgs false
namespace Go.Proofs.Ytkmakbjkapohlaa.Lib
open Go.RowKit Go.Proofs.YtkmakbjkapohlaaW.PrintWords

theorem w64 {x : Int} (h : -9223372036854775808 ≤ x) (h' : x < 9223372036854775808) : wrap64 x = x := by
  unfold wrap64
  omega

/-! ### rounds -/
theorem ev_succ {α : Type} {g : Nat → Option α} {r : α} (h : Ev (fun k => g (k + 1)) r) : Ev g r := Ev.step (fun _ => rfl) h
theorem ev_t {α : Type} {c : Prop} [Decidable c] {g h : Nat → Option α} {r : α} (hc : c) (e : Ev g r) : Ev (fun k => if c then g k else h k) r := by
  simpa [hc] using e
theorem ev_f {α : Type} {c : Prop} [Decidable c] {g h : Nat → Option α} {r : α} (hc : ¬ c) (e : Ev h r) : Ev (fun k => if c then g k else h k) r := by
  simpa [hc] using e
theorem ev_now {α : Type} (r : α) : Ev (fun _ => some r) r := Ev.now r
theorem ev_con {α : Type} {o : Option α} {r : α} (h : o = some r) : Ev (fun _ => o) r := ⟨0, fun _ _ => h⟩
theorem ev_p {α β : Type} {o : Option α} {f : Nat → α → Option β} {a : α} {r : β} (h : o = some a) (e : Ev (fun n => f n a) r) : Ev (fun n => o.bind (f n)) r := Ev.bind (g := fun _ => o) (ev_con h) e
theorem ev_one {α : Type} {g : Nat → Option α} {r : α} (h : ∀ k, g (k + 1) = some r) : Ev g r := ⟨1, fun k hk => by
  obtain ⟨m, rfl⟩ : ∃ m, k = m + 1 := ⟨k - 1, by omega⟩
  exact h m⟩

/-! ### small functions -/
theorem within_gen {f : Int → Int → Int → Option Bool} (h : ∀ a b c, f a b c = if a ≥ b then (some (decide (a ≤ c))) else (some false)) (a b c : Int) :
    f a b c = some (decide (b ≤ a ∧ a ≤ c)) := by
  rw [h]
  by_cases g : a ≥ b
  · rw [if_pos g]
    congr 1
    exact decide_eq_decide.2 ⟨fun x => ⟨g, x⟩, fun x => x.2⟩
  · rw [if_neg g]
    congr 1
    exact (decide_eq_false (fun x => g x.1)).symm
theorem most_gen {f : Int → Int → Option Int} (h : ∀ a b, f a b = if a > b then (some a) else (some b)) (a b : Int) : f a b = some (max a b) := by
  rw [h]
  split <;> (congr 1; omega)
theorem tmod_e {a b : Int} (h : 0 ≤ a) : Int.tmod a b = a % b := Int.tmod_eq_emod_of_nonneg h
theorem tdiv_e {a b : Int} (h : 0 ≤ a) : Int.tdiv a b = a / b := Int.tdiv_eq_ediv_of_nonneg h
theorem div_le {a b : Int} (h : 0 ≤ a) (hb : 1 ≤ b) : 0 ≤ a / b ∧ a / b ≤ a := by
  refine ⟨Int.ediv_nonneg h (by omega), ?_⟩
  exact Int.ediv_le_self _ h

/-! ### days -/
def ruleOk (e b y : Int) : Prop := 1 ≤ e ∧ e ≤ 10000 ∧ ((b = 0 ∧ y = 0) ∨ (e < b ∧ b ≤ 10000 ∧ b % e = 0 ∧ (y = 0 ∨ (b < y ∧ y ≤ 10000 ∧ y % b = 0))))
instance (e b y : Int) : Decidable (ruleOk e b y) := by
  unfold ruleOk
  infer_instance
def leapsP (e b y n : Int) : Int := n / e - (if 0 < b then n / b else 0) + (if 0 < y then n / y else 0)
def leapB (e b y n : Int) : Bool := decide (n % e = 0 ∧ (b = 0 ∨ n % b ≠ 0 ∨ (y ≠ 0 ∧ n % y = 0)))
def daysP (e b y n : Int) : Int := 365 * (n - 1) + leapsP e b y (n - 1)
def cycleP (e b y : Int) : Int := if 0 < y then y else if 0 < b then b else e
theorem leapsP_bd {e b y n : Int} (r : ruleOk e b y) (h : 0 ≤ n) : -n ≤ leapsP e b y n ∧ leapsP e b y n ≤ 2 * n := by
  unfold ruleOk at r
  unfold leapsP
  have h1 := div_le (b := e) h (by omega)
  have h2 : 0 < b → _ := fun g => div_le (b := b) h (by omega)
  have h3 : 0 < y → _ := fun g => div_le (b := y) h (by omega)
  split <;> split <;> omega
theorem div_step {n e : Int} (he : 1 ≤ e) : n / e = (n - 1) / e + (if n % e = 0 then 1 else 0) := by
  have a := Int.emod_add_mul_ediv n e
  have a0 := Int.emod_nonneg n (show e ≠ 0 by omega)
  have a1 := Int.emod_lt_of_pos n (show 0 < e by omega)
  by_cases h : n % e = 0
  · rw [if_pos h]
    have : (n - 1) / e = n / e - 1 := by
      have hh : n - 1 = (e - 1) + e * (n / e - 1) := by rw [Int.mul_sub]; omega
      rw [hh, Int.add_mul_ediv_left _ _ (by omega), Int.ediv_eq_zero_of_lt (by omega) (by omega)]
      omega
    omega
  · rw [if_neg h]
    have : (n - 1) / e = n / e := by
      have hh : n - 1 = (n % e - 1) + e * (n / e) := by omega
      rw [hh, Int.add_mul_ediv_left _ _ (by omega), Int.ediv_eq_zero_of_lt (by omega) (by omega)]
      omega
    omega
theorem mod_of_dvd {n b e : Int} (h : b % e = 0) (g : n % b = 0) : n % e = 0 :=
  Int.emod_eq_zero_of_dvd (Int.dvd_trans (Int.dvd_of_emod_eq_zero h) (Int.dvd_of_emod_eq_zero g))
theorem leapsP_step {e b y n : Int} (r : ruleOk e b y) : leapsP e b y n = leapsP e b y (n - 1) + (if leapB e b y n = true then 1 else 0) := by
  unfold ruleOk at r
  have h1 := div_step (n := n) (e := e) (by omega)
  have h2 : 0 < b → _ := fun g => div_step (n := n) (e := b) (by omega)
  have h3 : 0 < y → _ := fun g => div_step (n := n) (e := y) (by omega)
  have d1 : 0 < b → n % b = 0 → n % e = 0 := fun g => mod_of_dvd (by omega)
  have d2 : 0 < y → n % y = 0 → n % b = 0 := fun g => mod_of_dvd (by omega)
  unfold leapsP leapB
  simp only [decide_eq_true_eq]
  generalize n % e = pe at *
  generalize n % b = pb at *
  generalize n % y = py at *
  generalize n / e = qe at *
  generalize n / b = qb at *
  generalize n / y = qy at *
  generalize (n - 1) / e = q1 at *
  generalize (n - 1) / b = q2 at *
  generalize (n - 1) / y = q3 at *
  rcases r with ⟨_, _, ⟨rfl, rfl⟩ | ⟨hb, _, _, rfl | ⟨hy, _, _⟩⟩⟩
  · simp
    by_cases c : pe = 0 <;> simp [c] at h1 ⊢ <;> omega
  · have h2 := h2 (by omega)
    have d1 := d1 (by omega)
    rw [if_pos (show 0 < b by omega), if_pos (show 0 < b by omega)]
    simp
    by_cases c : pe = 0
    · by_cases c2 : pb = 0
      · rw [if_pos c] at h1; rw [if_pos c2] at h2; rw [if_neg (by omega)]; omega
      · rw [if_pos c] at h1; rw [if_neg c2] at h2; rw [if_pos (by omega)]; omega
    · have c2 : ¬ pb = 0 := fun z => c (d1 z)
      rw [if_neg c] at h1; rw [if_neg c2] at h2; rw [if_neg (by omega)]; omega
  · have h2 := h2 (by omega)
    have h3 := h3 (by omega)
    have d1 := d1 (by omega)
    have d2 := d2 (by omega)
    rw [if_pos (show 0 < b by omega), if_pos (show 0 < b by omega), if_pos (show 0 < y by omega), if_pos (show 0 < y by omega)]
    by_cases c : pe = 0
    · by_cases c2 : pb = 0
      · by_cases c3 : py = 0
        · rw [if_pos c] at h1; rw [if_pos c2] at h2; rw [if_pos c3] at h3; rw [if_pos (by omega)]; omega
        · rw [if_pos c] at h1; rw [if_pos c2] at h2; rw [if_neg c3] at h3; rw [if_neg (by omega)]; omega
      · have c3 : ¬ py = 0 := fun z => c2 (d2 z)
        rw [if_pos c] at h1; rw [if_neg c2] at h2; rw [if_neg c3] at h3; rw [if_pos (by omega)]; omega
    · have c2 : ¬ pb = 0 := fun z => c (d1 z)
      have c3 : ¬ py = 0 := fun z => c2 (d2 z)
      rw [if_neg c] at h1; rw [if_neg c2] at h2; rw [if_neg c3] at h3; rw [if_neg (by omega)]; omega
theorem leapsP_mono {e b y n : Int} (r : ruleOk e b y) : ∀ d : Nat, leapsP e b y n ≤ leapsP e b y (n + d)
  | 0 => by simp
  | d + 1 => by
    have h := leapsP_step (n := n + (d + 1 : Nat)) r
    have e1 : n + ((d + 1 : Nat) : Int) - 1 = n + d := by omega
    rw [e1] at h
    have := leapsP_mono (n := n) r d
    split at h <;> omega
theorem leapsP_le {e b y n m : Int} (r : ruleOk e b y) (h : n ≤ m) : leapsP e b y n ≤ leapsP e b y m := by
  have := leapsP_mono (n := n) r (m - n).toNat
  have e1 : n + ((m - n).toNat : Int) = m := by omega
  rw [e1] at this
  exact this
theorem daysP_lt {e b y n m : Int} (r : ruleOk e b y) (h : n < m) : daysP e b y n < daysP e b y m := by
  unfold daysP
  have := leapsP_le (n := n - 1) (m := m - 1) r (by omega)
  omega
theorem daysP_bd {e b y n : Int} (r : ruleOk e b y) (h : 1 ≤ n) (h' : n ≤ 1000001) : 0 ≤ daysP e b y n ∧ daysP e b y n ≤ 367000000 := by
  unfold daysP
  have := leapsP_bd (n := n - 1) r (by omega)
  omega
theorem cycleP_bd {e b y : Int} (r : ruleOk e b y) : 1 ≤ cycleP e b y ∧ cycleP e b y ≤ 10000 := by
  unfold ruleOk at r
  unfold cycleP
  split <;> (try split) <;> omega
end Go.Proofs.Ytkmakbjkapohlaa.Lib
