/- General lemmas about rounds, wrap-around, whole numbers and lists, with no program in sight. -/
import Derived.Test.YtkfcaldjepmffaaWWords
set_option linter.unusedVariables false
set_option linter.unusedSimpArgs false
namespace Go.Proofs.Ytkfcaldjepmffaa.Lib
open Go.RowKit Go.Proofs.YtkfcaldjepmffaaW.PrintWords

theorem w64 {x : Int} (h : -9223372036854775808 ≤ x) (h' : x < 9223372036854775808) : wrap64 x = x := by
  unfold wrap64
  omega

/-! ### rounds -/
theorem ev_succ {α : Type} {g : Nat → Option α} {r : α} (h : Ev (fun k => g (k + 1)) r) : Ev g r := Ev.step (fun _ => rfl) h
theorem ev_t {α : Type} {c : Prop} [Decidable c] {g h : Nat → Option α} {r : α} (hc : c) (e : Ev g r) : Ev (fun k => if c then g k else h k) r := by
  simpa [hc] using e
theorem ev_f {α : Type} {c : Prop} [Decidable c] {g h : Nat → Option α} {r : α} (hc : ¬ c) (e : Ev h r) : Ev (fun k => if c then g k else h k) r := by
  simpa [hc] using e
theorem ev_now {α : Type} (r : α) : Ev (fun _ => some r) r := Ev.now r
theorem ev_con {α : Type} {o : Option α} {r : α} (h : o = some r) : Ev (fun _ => o) r := ⟨0, fun _ _ => h⟩
theorem ev_p {α β : Type} {o : Option α} {f : Nat → α → Option β} {a : α} {r : β} (h : o = some a) (e : Ev (fun n => f n a) r) : Ev (fun n => o.bind (f n)) r := Ev.bind (g := fun _ => o) (ev_con h) e
theorem ev_one {α : Type} {g : Nat → Option α} {r : α} (h : ∀ k, g (k + 1) = some r) : Ev g r := ⟨1, fun k hk => by
  obtain ⟨m, rfl⟩ : ∃ m, k = m + 1 := ⟨k - 1, by omega⟩
  exact h m⟩
theorem ev_two {α : Type} {g : Nat → Option α} {r : α} (h : ∀ k, g (k + 2) = some r) : Ev g r := ev_succ (ev_one h)

/-! ### small functions -/
theorem within_gen {f : Int → Int → Int → Option Bool} (h : ∀ a b c, f a b c = if a ≥ b then (some (decide (a ≤ c))) else (some false)) (a b c : Int) :
    f a b c = some (decide (b ≤ a ∧ a ≤ c)) := by
  rw [h]
  by_cases g : a ≥ b
  · rw [if_pos g]
    congr 1
    exact decide_eq_decide.2 ⟨fun x => ⟨g, x⟩, fun x => x.2⟩
  · rw [if_neg g]
    congr 1
    exact (decide_eq_false (fun x => g x.1)).symm
theorem tmod_e {a b : Int} (h : 0 ≤ a) : Int.tmod a b = a % b := Int.tmod_eq_emod_of_nonneg h

/-! ### days -/
def ruleOk (e b y : Int) : Prop := 1 ≤ e ∧ e ≤ 10000 ∧ ((b = 0 ∧ y = 0) ∨ (e < b ∧ b ≤ 10000 ∧ b % e = 0 ∧ (y = 0 ∨ (b < y ∧ y ≤ 10000 ∧ y % b = 0))))
instance (e b y : Int) : Decidable (ruleOk e b y) := by
  unfold ruleOk
  infer_instance
end Go.Proofs.Ytkfcaldjepmffaa.Lib
