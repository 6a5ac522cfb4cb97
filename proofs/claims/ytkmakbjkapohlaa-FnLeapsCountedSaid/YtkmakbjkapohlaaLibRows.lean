/- Loops that compare, fill, mark and look through rows: general lemmas, with no program in sight. -/
import Derived.Test.YtkmakbjkapohlaaLib
set_option linter.unusedVariables false
set_option linter.unusedSimpArgs false
namespace Go.Proofs.Ytkmakbjkapohlaa.Lib
open Go.RowKit Go.Proofs.YtkmakbjkapohlaaW.PrintWords

/-- A loop with a counter that goes up to n and tells r at its end. -/
theorem scan_gen {β : Type} {g : Int → Nat → Option β} {r : β} {n : Int} (h1 : ∀ i, 0 ≤ i → i < n → Ev (g (i + 1)) r → Ev (g i) r) (h2 : Ev (g n) r) (i : Int) (hi : 0 ≤ i) (hn : i ≤ n) : Ev (g i) r := by
  have go : ∀ d : Nat, ∀ i, 0 ≤ i → i ≤ n → n - i = d → Ev (g i) r := by
    intro d
    induction d with
    | zero =>
      intro i h0 h3 h4
      obtain rfl : i = n := by omega
      exact h2
    | succ d ih =>
      intro i h0 h3 h4
      exact h1 i h0 (by omega) (ih (i + 1) (by omega) (by omega) (by omega))
  exact go (n - i).toNat i hi hn (by omega)
/-- The values g i, g (i + 1), .., m of them. -/
def upTo {α : Type} (g : Int → α) (i : Int) : Nat → List α
  | 0 => []
  | m + 1 => g i :: upTo g (i + 1) m
theorem upTo_length {α : Type} (g : Int → α) : ∀ (m : Nat) (i : Int), (upTo g i m).length = m
  | 0, _ => rfl
  | m + 1, i => by simp [upTo, upTo_length g m]
theorem upTo_get {α : Type} (g : Int → α) (d : α) : ∀ (m : Nat) (i : Int) (j : Nat), j < m → (upTo g i m).getD j d = g (i + j)
  | 0, _, j, h => by omega
  | m + 1, i, 0, h => by simp [upTo]
  | m + 1, i, j + 1, h => by
    have := upTo_get g d m (i + 1) j (by omega)
    simp only [upTo, List.getD_cons_succ]
    rw [this]
    congr 1
    omega
theorem upTo_snoc {α : Type} (g : Int → α) : ∀ (m : Nat) (i : Int), upTo g i (m + 1) = upTo g i m ++ [g (i + m)]
  | 0, i => by simp [upTo]
  | m + 1, i => by
    rw [upTo, upTo_snoc g m (i + 1), upTo]
    simp only [List.cons_append]
    congr 3
    have : i + 1 + (m : Int) = i + ((m + 1 : Nat) : Int) := by omega
    rw [this]
theorem upTo_congr {α : Type} {g h : Int → α} : ∀ (m : Nat) (i : Int), (∀ j, i ≤ j → j < i + m → g j = h j) → upTo g i m = upTo h i m
  | 0, _, _ => rfl
  | m + 1, i, e => by
    rw [upTo, upTo, e i (by omega) (by omega), upTo_congr m (i + 1) (fun j a b => e j (by omega) (by omega))]
theorem upTo_mem {α : Type} {g : Int → α} {x : α} : ∀ (m : Nat) (i : Int), x ∈ upTo g i m → ∃ j, i ≤ j ∧ j < i + m ∧ x = g j
  | 0, _, h => by simp [upTo] at h
  | m + 1, i, h => by
    simp only [upTo, List.mem_cons] at h
    rcases h with rfl | h
    · exact ⟨i, by omega, by omega, rfl⟩
    · obtain ⟨j, a, b, c⟩ := upTo_mem m (i + 1) h
      exact ⟨j, by omega, by omega, c⟩
/-- A loop that appends g i to what it has, for i up to n. -/
theorem fill_gen {α β : Type} {l0 : Nat → List α → Int → Option β} {g : Int → α} {F : List α → β} {n : Int} {i0 : Int} (hc : n - i0 < 1000000)
    (h1 : ∀ k acc i, i0 ≤ i → i ≤ n → acc.length ≤ 1000000 → l0 (k + 1) acc i = l0 k (acc ++ [g i]) (i + 1)) (h2 : ∀ k acc i, n < i → l0 (k + 1) acc i = some (F acc)) :
    Ev (fun k => l0 k [] i0) (F (upTo g i0 (n + 1 - i0).toNat)) := by
  have go : ∀ (d j : Nat), i0 + j ≤ n + 1 → n + 1 - i0 = j + d → Ev (fun k => l0 k (upTo g i0 j) (i0 + j)) (F (upTo g i0 (j + d))) := by
    intro d
    induction d with
    | zero =>
      intro j a b
      exact ev_one fun k => h2 k _ _ (by omega)
    | succ d ih =>
      intro j a b
      refine ev_succ ?_
      have e : (fun k => l0 (k + 1) (upTo g i0 j) (i0 + j)) = fun k => l0 k (upTo g i0 (j + 1)) (i0 + (j + 1 : Nat)) := by
        funext k
        rw [h1 k _ _ (by omega) (by omega) (by rw [upTo_length]; omega), upTo_snoc]
        congr 1
        omega
      rw [e, show j + (d + 1) = j + 1 + d by omega]
      exact ih (j + 1) (by omega) (by omega)
  by_cases c : i0 ≤ n + 1
  · have := go (n + 1 - i0).toNat 0 (by omega) (by omega)
    simpa [upTo] using this
  · have z : (n + 1 - i0).toNat = 0 := by omega
    rw [z]
    exact ev_one fun k => h2 k _ _ (by omega)
/-- A loop that writes mk m into each place, m going up by s. -/
theorem mark_gen {α : Type} {mk : Int → α} {s : Int} {l0 : Nat → List α → Int → Int → Option (Int × List α)} (hs : 0 ≤ s) (hs' : s ≤ 1000)
    (h1 : ∀ k xs m i, 0 ≤ i → i < (xs.length : Int) → xs.length ≤ 1000000000 → 0 ≤ m → m ≤ 10000000000000 → l0 (k + 1) xs m i = l0 k (xs.set i.toNat (mk m)) (m + s) (i + 1))
    (h2 : ∀ k xs m i, ¬ i < (xs.length : Int) → l0 (k + 1) xs m i = some (m, xs)) (l : List α) (m0 : Int) (hl : l.length ≤ 1000000000) (hm : 0 ≤ m0) (hm' : m0 ≤ 1000000000000) :
    Ev (fun k => l0 k l m0 0) (m0 + s * l.length, upTo (fun j => mk (m0 + s * j)) 0 l.length) := by
  have go : ∀ (d j : Nat), j + d = l.length → Ev (fun k => l0 k (upTo (fun j => mk (m0 + s * j)) 0 j ++ l.drop j) (m0 + s * j) j) (m0 + s * l.length, upTo (fun j => mk (m0 + s * j)) 0 l.length) := by
    intro d
    induction d with
    | zero =>
      intro j a
      obtain rfl : j = l.length := by omega
      refine ev_one fun k => ?_
      rw [h2 _ _ _ _ (by simp [upTo_length])]
      simp
    | succ d ih =>
      intro j a
      refine ev_succ ?_
      have b1 : (upTo (fun j => mk (m0 + s * j)) 0 j ++ l.drop j).length = l.length := by simp [upTo_length]; omega
      have b2 : 0 ≤ s * (j : Int) := Int.mul_nonneg hs (by omega)
      have b3 : s * (j : Int) ≤ 1000 * j := Int.mul_le_mul_of_nonneg_right hs' (by omega)
      have e : (fun k => l0 (k + 1) (upTo (fun j => mk (m0 + s * j)) 0 j ++ l.drop j) (m0 + s * j) j) = fun k => l0 k (upTo (fun j => mk (m0 + s * j)) 0 (j + 1) ++ l.drop (j + 1)) (m0 + s * (j + 1 : Nat)) (j + 1 : Nat) := by
        funext k
        rw [h1 k _ _ _ (by omega) (by rw [b1]; omega) (by omega) (by omega) (by omega), upTo_snoc]
        have e1 : m0 + s * (j : Int) + s = m0 + s * ((j + 1 : Nat) : Int) := by
          have : s * ((j + 1 : Nat) : Int) = s * j + s := by
            rw [show ((j + 1 : Nat) : Int) = (j : Int) + 1 by omega, Int.mul_add, Int.mul_one]
          omega
        have e2 : (upTo (fun j => mk (m0 + s * j)) 0 j ++ l.drop j).set ((j : Int).toNat) (mk (m0 + s * j)) = upTo (fun j => mk (m0 + s * j)) 0 j ++ [mk (m0 + s * (0 + (j : Int)))] ++ l.drop (j + 1) := by
          have e3 : (l.drop j).set 0 (mk (m0 + s * j)) = mk (m0 + s * j) :: l.drop (j + 1) := by
            rw [List.drop_eq_getElem_cons (by omega)]
            rfl
          rw [show ((j : Int)).toNat = j by omega, List.set_append_right _ _ (by rw [upTo_length]; omega), upTo_length, Nat.sub_self, e3]
          simp
        rw [e1, e2]
        rfl
      rw [e]
      exact ih (j + 1) (by omega)
  have := go l.length 0 (by omega)
  simpa [upTo] using this
/-- A loop that looks whether each place holds what the marking wrote. -/
theorem held_gen {α : Type} {mk : Int → α} {s : Int} {l0 : Nat → List α → Int → Int → Option Int} (hs : 0 ≤ s) (hs' : s ≤ 1000) (d : α)
    (h1 : ∀ k xs m i, 0 ≤ i → i < (xs.length : Int) → xs.length ≤ 1000000000 → 0 ≤ m → m ≤ 10000000000000 → xs.getD i.toNat d = mk m → l0 (k + 1) xs m i = l0 k xs (m + s) (i + 1))
    (h2 : ∀ k xs m i, ¬ i < (xs.length : Int) → l0 (k + 1) xs m i = some m) (n : Nat) (m0 : Int) (hl : n ≤ 1000000000) (hm : 0 ≤ m0) (hm' : m0 ≤ 1000000000000) :
    Ev (fun k => l0 k (upTo (fun j => mk (m0 + s * j)) 0 n) m0 0) (m0 + s * n) := by
  have z := scan_gen (g := fun i k => l0 k (upTo (fun j => mk (m0 + s * j)) 0 n) (m0 + s * i) i) (r := m0 + s * n) (n := n) ?_ ?_ 0 (by omega) (by omega)
  · simpa using z
  · intro i a b ih
    have b2 : 0 ≤ s * i := Int.mul_nonneg hs a
    have b3 : s * i ≤ 1000 * i := Int.mul_le_mul_of_nonneg_right hs' a
    refine ev_succ ?_
    have e : (fun k => l0 (k + 1) (upTo (fun j => mk (m0 + s * j)) 0 n) (m0 + s * i) i) = fun k => l0 k (upTo (fun j => mk (m0 + s * j)) 0 n) (m0 + s * (i + 1)) (i + 1) := by
      funext k
      rw [h1 k _ _ _ a (by rw [upTo_length]; omega) (by rw [upTo_length]; omega) (by omega) (by omega) ?_]
      · congr 1
        rw [Int.mul_add, Int.mul_one]
        omega
      · rw [upTo_get _ _ _ _ _ (by omega)]
        congr 2
        rw [show (0 : Int) + (i.toNat : Int) = i by omega]
    rw [e]
    exact ih
  · exact ev_one fun k => h2 _ _ _ _ (by rw [upTo_length]; omega)
theorem upTo_shift {α : Type} (h : Int → α) (c : Int) : ∀ (m : Nat) (a : Int), upTo (fun i => h (c + i)) a m = upTo h (c + a) m
  | 0, _ => rfl
  | m + 1, a => by
    rw [upTo, upTo, upTo_shift h c m (a + 1), show c + (a + 1) = c + a + 1 by omega]
theorem first_bad {p : Int → Prop} : ∀ (n : Nat), (∀ i : Int, 0 ≤ i → i < n → p i) ∨ ∃ s : Int, 0 ≤ s ∧ s < n ∧ ¬ p s ∧ ∀ i, 0 ≤ i → i < s → p i
  | 0 => Or.inl fun i a b => by omega
  | n + 1 => by
    rcases first_bad (p := p) n with h | ⟨s, a, b, c, d⟩
    · by_cases hp : p (n : Int)
      · refine Or.inl fun i a b => ?_
        by_cases e : i = (n : Int)
        · rw [e]
          exact hp
        · exact h i a (by omega)
      · exact Or.inr ⟨n, by omega, by omega, hp, h⟩
    · exact Or.inr ⟨s, a, by omega, c, d⟩
/-- Marking and looking, where a round has rounds of its own. -/
theorem mark_ev {α : Type} {mk : Int → α} {s : Int} {l0 : Nat → List α → Int → Int → Option (Int × List α)} (hs : 0 ≤ s) (hs' : s ≤ 1000)
    (h1 : ∀ R xs m i, 0 ≤ i → i < (xs.length : Int) → xs.length ≤ 2000000 → 0 ≤ m → m ≤ 10000000000 → Ev (fun k => l0 k (xs.set i.toNat (mk m)) (m + s) (i + 1)) R → Ev (fun k => l0 k xs m i) R)
    (h2 : ∀ xs m i, ¬ i < (xs.length : Int) → Ev (fun k => l0 k xs m i) (m, xs)) (l : List α) (m0 : Int) (hl : l.length ≤ 2000000) (hm : 0 ≤ m0) (hm' : m0 ≤ 1000000000) :
    Ev (fun k => l0 k l m0 0) (m0 + s * l.length, upTo (fun j => mk (m0 + s * j)) 0 l.length) := by
  have go : ∀ (d j : Nat), j + d = l.length → Ev (fun k => l0 k (upTo (fun j => mk (m0 + s * j)) 0 j ++ l.drop j) (m0 + s * j) j) (m0 + s * l.length, upTo (fun j => mk (m0 + s * j)) 0 l.length) := by
    intro d
    induction d with
    | zero =>
      intro j a
      obtain rfl : j = l.length := by omega
      have := h2 (upTo (fun j => mk (m0 + s * j)) 0 l.length ++ l.drop l.length) (m0 + s * l.length) l.length (by simp [upTo_length])
      simpa using this
    | succ d ih =>
      intro j a
      have b1 : (upTo (fun j => mk (m0 + s * j)) 0 j ++ l.drop j).length = l.length := by simp [upTo_length]; omega
      have b2 : 0 ≤ s * (j : Int) := Int.mul_nonneg hs (by omega)
      have b3 : s * (j : Int) ≤ 1000 * j := Int.mul_le_mul_of_nonneg_right hs' (by omega)
      refine h1 _ _ _ _ (by omega) (by rw [b1]; omega) (by omega) (by omega) (by omega) ?_
      have e1 : m0 + s * (j : Int) + s = m0 + s * ((j + 1 : Nat) : Int) := by
        have : s * ((j + 1 : Nat) : Int) = s * j + s := by
          rw [show ((j + 1 : Nat) : Int) = (j : Int) + 1 by omega, Int.mul_add, Int.mul_one]
        omega
      have e3 : (l.drop j).set 0 (mk (m0 + s * j)) = mk (m0 + s * j) :: l.drop (j + 1) := by
        rw [List.drop_eq_getElem_cons (by omega)]
        rfl
      have e2 : (upTo (fun j => mk (m0 + s * j)) 0 j ++ l.drop j).set ((j : Int).toNat) (mk (m0 + s * j)) = upTo (fun j => mk (m0 + s * j)) 0 (j + 1) ++ l.drop (j + 1) := by
        rw [show ((j : Int)).toNat = j by omega, List.set_append_right _ _ (by rw [upTo_length]; omega), upTo_length, Nat.sub_self, e3, upTo_snoc]
        simp
      rw [e1, e2]
      have := ih (j + 1) (by omega)
      simpa using this
  have := go l.length 0 (by omega)
  simpa [upTo] using this
theorem held_ev {α : Type} {mk : Int → α} {s : Int} {l0 : Nat → List α → Int → Int → Option Int} (hs : 0 ≤ s) (hs' : s ≤ 1000) (d : α)
    (h1 : ∀ R xs m i, 0 ≤ i → i < (xs.length : Int) → xs.length ≤ 2000000 → 0 ≤ m → m ≤ 10000000000 → xs.getD i.toNat d = mk m → Ev (fun k => l0 k xs (m + s) (i + 1)) R → Ev (fun k => l0 k xs m i) R)
    (h2 : ∀ xs m i, ¬ i < (xs.length : Int) → Ev (fun k => l0 k xs m i) m) (n : Nat) (m0 : Int) (hl : n ≤ 2000000) (hm : 0 ≤ m0) (hm' : m0 ≤ 1000000000) :
    Ev (fun k => l0 k (upTo (fun j => mk (m0 + s * j)) 0 n) m0 0) (m0 + s * n) := by
  have z := scan_gen (g := fun i k => l0 k (upTo (fun j => mk (m0 + s * j)) 0 n) (m0 + s * i) i) (r := m0 + s * n) (n := n) ?_ ?_ 0 (by omega) (by omega)
  · simpa using z
  · intro i a b ih
    have b2 : 0 ≤ s * i := Int.mul_nonneg hs a
    have b3 : s * i ≤ 1000 * i := Int.mul_le_mul_of_nonneg_right hs' a
    refine h1 _ _ _ _ a (by rw [upTo_length]; omega) (by rw [upTo_length]; omega) (by omega) (by omega) ?_ ?_
    · rw [upTo_get _ _ _ _ _ (by omega)]
      congr 2
      rw [show (0 : Int) + (i.toNat : Int) = i by omega]
    · have e : m0 + s * i + s = m0 + s * (i + 1) := by
        rw [Int.mul_add, Int.mul_one]
        omega
      rw [e]
      exact ih
  · exact h2 _ _ _ (by rw [upTo_length]; omega)
/-- A loop that copies a row, element by element. -/
theorem copy_gen {α β : Type} {cv : α → β} {d : α} {l0 : Nat → List α → List β → Int → Option (List β)}
    (h1 : ∀ k xs ys i, 0 ≤ i → i < (xs.length : Int) → ys.length = xs.length → xs.length ≤ 1000000000 → l0 (k + 1) xs ys i = l0 k xs (ys.set i.toNat (cv (xs.getD i.toNat d))) (i + 1))
    (h2 : ∀ k xs ys i, ¬ i < (xs.length : Int) → l0 (k + 1) xs ys i = some ys) (xs : List α) (ys : List β) (hy : ys.length = xs.length) (hl : xs.length ≤ 1000000000) :
    Ev (fun k => l0 k xs ys 0) (xs.map cv) := by
  have go : ∀ (e j : Nat), j + e = xs.length → Ev (fun k => l0 k xs ((xs.map cv).take j ++ ys.drop j) j) (xs.map cv) := by
    intro e
    induction e with
    | zero =>
      intro j a
      refine ev_one fun k => ?_
      rw [h2 _ _ _ _ (by omega), List.take_of_length_le (by simp; omega), List.drop_of_length_le (by omega), List.append_nil]
    | succ e ih =>
      intro j a
      refine ev_succ ?_
      have hj : j < xs.length := by omega
      have q : (fun k => l0 (k + 1) xs ((xs.map cv).take j ++ ys.drop j) j) = fun k => l0 k xs ((xs.map cv).take (j + 1) ++ ys.drop (j + 1)) (j + 1 : Nat) := by
        funext k
        rw [h1 k _ _ _ (by omega) (by omega) (by simp; omega) hl]
        have e3 : (ys.drop j).set 0 (cv (xs.getD j d)) = cv (xs.getD j d) :: ys.drop (j + 1) := by
          rw [List.drop_eq_getElem_cons (by omega)]
          rfl
        have e4 : (xs.map cv).take (j + 1) = (xs.map cv).take j ++ [cv (xs.getD j d)] := by
          rw [List.take_succ_eq_append_getElem (by simpa using hj), List.getElem_map]
          congr 3
          rw [List.getD_eq_getElem?_getD, List.getElem?_eq_getElem hj]
          rfl
        have e5 : ((xs.map cv).take j).length = j := by simp; omega
        rw [show ((j : Int)).toNat = j by omega, List.set_append_right _ _ (by omega), e5, Nat.sub_self, e3, e4]
        simp
      rw [q]
      exact ih (j + 1) (by omega)
  have := go xs.length 0 (by omega)
  simpa using this
theorem rd_eq (xs : List Int) (i : Int) : rd xs i = xs.getD i.toNat 0 := rfl
theorem rdOf_eq {α : Type} (d : α) (xs : List α) (i : Int) : rdOf d xs i = xs.getD i.toNat d := rfl
end Go.Proofs.Ytkmakbjkapohlaa.Lib
