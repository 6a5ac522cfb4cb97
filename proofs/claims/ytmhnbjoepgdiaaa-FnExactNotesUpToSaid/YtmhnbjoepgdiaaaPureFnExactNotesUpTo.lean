/- FnExactNotesUpTo: the law's printed function answers true at every input. -/
import Derived.Test.YtmhnbjoepgdiaaaGFnExactNotesUpTox3
import Derived.Test.YtmhnbjoepgdiaaaLib
import Derived.Test.YtmhnbjoepgdiaaaLibRows
import Derived.Test.YtmhnbjoepgdiaaaLibGcd
set_option linter.unusedVariables false
set_option linter.unusedSimpArgs false
namespace Go.Proofs.Ytmhnbjoepgdiaaa.Pure.FnExactNotesUpToWay
open Go.RowKit Go.Proofs.Ytmhnbjoepgdiaaa.GFnExactNotesUpTo Go.Proofs.YtmhnbjoepgdiaaaW.PrintWords Go.Proofs.YtmhnbjoepgdiaaaW.PrintLast Go.Proofs.YtmhnbjoepgdiaaaW.PrintMore Go.Proofs.Ytmhnbjoepgdiaaa.Lib

/-! strSize -/
theorem empty_size : (⟨#[]⟩ : ByteArray).size = 0 := rfl
theorem rdS_mem (l : List ByteArray) (i : Int) (h0 : 0 ≤ i) (h : i < (l.length : Int)) : rdOf ByteArray.empty l i ∈ l := by
  unfold rdOf
  rw [List.getD_eq_getElem?_getD, List.getElem?_eq_getElem (by omega)]
  exact List.getElem_mem _
theorem rdS_get (l : List ByteArray) (i : Nat) (h : i < l.length) : rdOf ByteArray.empty l i = l[i] := by
  unfold rdOf
  rw [List.getD_eq_getElem?_getD, show ((i : Int)).toNat = i by omega, List.getElem?_eq_getElem h]
  rfl

/-! szStringS -/
def sumS : List ByteArray → Nat
  | [] => 0
  | s :: l => s.size + sumS l
theorem sumS_mem {s : ByteArray} : ∀ {l : List ByteArray}, s ∈ l → s.size ≤ sumS l
  | [], h => by simp at h
  | t :: l, h => by
    rcases List.mem_cons.1 h with rfl | h
    · simp only [sumS]
      omega
    · have := sumS_mem h
      simp only [sumS]
      omega
def szR (n : Int) (m : Nat) : Int := if (m : Int) ≤ n then n - (m : Int) else -1
theorem szR_zero {n : Int} (h : 0 ≤ n) : szR n 0 = n := by
  unfold szR
  rw [if_pos (by omega)]
  omega
theorem szR_cons {n : Int} {a : Nat} (b : Nat) (h : (a : Int) ≤ n) : szR n (a + b) = szR (n - a) b := by
  unfold szR
  split <;> split <;> omega
theorem szR_neg {n : Int} {a : Nat} (b : Nat) (h : ¬ (a : Int) ≤ n) : szR n (a + b) = -1 := by
  unfold szR
  rw [if_neg (by omega)]
def szP (l : List ByteArray) (n : Int) : Int := szR n (l.length + sumS l)
theorem szStringS_go {l : List ByteArray} (hs : ∀ s ∈ l, s.size ≤ maxLen) (hl : l.length ≤ 1048576) : ∀ (d j : Nat) (n : Int), j + d = l.length → 0 ≤ n → n ≤ 1048576 → Ev (fun k => laws_szStringS.l0 k l n j) (szR n (sumS (l.drop j))) := by
  intro d
  induction d with
  | zero =>
    intro j n a b c
    refine ev_one fun k => ?_
    simp only [laws_szStringS.l0]
    rw [if_neg (by omega), List.drop_of_length_le (by omega)]
    show some n = some (szR n 0)
    rw [szR_zero b]
  | succ d ih =>
    intro j n a b c
    have m := hs _ (rdS_mem l j (by omega) (by omega))
    unfold maxLen at m
    rw [List.drop_eq_getElem_cons (show j < l.length by omega)]
    refine ev_succ ?_
    simp only [laws_szStringS.l0]
    refine ev_t (by omega) (ev_t (by omega) ?_)
    rw [rdS_get l j (by omega)] at m ⊢
    rw [w64 (x := n - (l[j].size : Int)) (by omega) (by omega), w64 (x := (j : Int) + 1) (by omega) (by omega)]
    show Ev _ (szR n (l[j].size + sumS (l.drop (j + 1))))
    by_cases g : (l[j].size : Int) ≤ n
    · rw [szR_cons _ g]
      exact ev_f (by omega) (ih (j + 1) (n - (l[j].size : Int)) (by omega) (by omega) (by omega))
    · rw [szR_neg _ g]
      exact ev_t (by omega) (ev_now _)
theorem szStringS_ev {l : List ByteArray} {n : Int} (hs : ∀ s ∈ l, s.size ≤ maxLen) (hl : l.length ≤ maxLen) (h0 : 0 ≤ n) (h1 : n ≤ 1048576) : Ev (fun k => laws_szStringS.f k l n) (szP l n) := by
  unfold maxLen at hl
  unfold laws_szStringS.f szP
  rw [w64 (by omega) (by omega)]
  by_cases c : (l.length : Int) ≤ n
  · rw [szR_cons _ c]
    have := szStringS_go hs (by omega) l.length 0 (n - (l.length : Int)) (by omega) (by omega) (by omega)
    rw [List.drop_zero] at this
    exact ev_f (by omega) this
  · rw [szR_neg _ c]
    exact ev_t (by omega) (ev_now _)
theorem szP_pos {l : List ByteArray} {n : Int} (h : (l.length : Int) + (sumS l : Int) ≤ n) : szP l n = n - ((l.length : Int) + (sumS l : Int)) := by
  unfold szP szR
  rw [if_pos (by omega)]
  omega
theorem szP_neg {l : List ByteArray} {n : Int} (h : ¬ (l.length : Int) + (sumS l : Int) ≤ n) : szP l n = -1 := by
  unfold szP szR
  rw [if_neg (by omega)]

/-! toStringS -/
theorem toStringS_ev (l : List ByteArray) (h : l.length ≤ 1000000000) : Ev (fun k => laws_toStringS.f k l) l := by
  unfold laws_toStringS.f
  refine ev_t (by omega) (ev_t (by omega) ?_)
  have := copy_gen (cv := fun s : ByteArray => s) (d := ByteArray.empty) (l0 := laws_toStringS.l0) (by
    intro k xs ys i a b c d
    simp only [laws_toStringS.l0]
    rw [if_pos b, if_pos a, if_pos (by omega), w64 (by omega) (by omega)]
    rfl) (by
    intro k xs ys i a
    simp only [laws_toStringS.l0]
    rw [if_neg a]) l (List.replicate ((l.length : Int) : Int).toNat (⟨#[]⟩ : ByteArray)) (by simp) h
  simpa using this

/-! eqStringS -/
theorem eqStringS_ev (l : List ByteArray) (h : l.length ≤ 1000000000) : Ev (fun k => laws_eqStringS.f k l l) true := by
  unfold laws_eqStringS.f
  refine ev_t rfl ?_
  exact scan_gen (g := fun i k => laws_eqStringS.l0 k l l i) (n := l.length) (fun i a b ih => by
    refine ev_succ ?_
    simp only [laws_eqStringS.l0]
    refine ev_t b (ev_t a (ev_t b (ev_t (by first | rfl | trivial) ?_)))
    rw [w64 (by omega) (by omega)]
    exact ih) (by
    refine ev_one fun k => ?_
    simp only [laws_eqStringS.l0]
    rw [if_neg (by omega)]) 0 (by omega) (by omega)

/-! phraseB -/
def okB (s : ByteArray) (i : Nat) : Bool := decide (49 ≤ bt s i ∧ bt s i ≤ 56)
def phraseB (s : ByteArray) : Bool := decide (1 ≤ (s.size : Int) ∧ (s.size : Int) ≤ 8) && (List.range s.size).all (okB s)
def tuneB (l : List ByteArray) : Bool := decide (1 ≤ (l.length : Int) ∧ (l.length : Int) ≤ 12) && l.all phraseB
theorem tuneB_of {l : List ByteArray} (h : tuneB l = true) : 1 ≤ l.length ∧ l.length ≤ 12 ∧ ∀ s ∈ l, 1 ≤ s.size ∧ s.size ≤ 8 ∧ ∀ i : Nat, i < s.size → 49 ≤ bt s i ∧ bt s i ≤ 56 := by
  unfold tuneB at h
  simp only [Bool.and_eq_true, decide_eq_true_eq, List.all_eq_true] at h
  refine ⟨by omega, by omega, fun s hs => ?_⟩
  have g := h.2 s hs
  unfold phraseB at g
  simp only [Bool.and_eq_true, decide_eq_true_eq, List.all_eq_true, List.mem_range] at g
  refine ⟨by omega, by omega, fun i hi => ?_⟩
  have := g.2 i hi
  unfold okB at this
  simpa using this
theorem range_drop (n i : Nat) (h : i < n) : (List.range n).drop i = i :: (List.range n).drop (i + 1) := by
  rw [List.drop_eq_getElem_cons (by simpa using h)]
  simp

/-! l1In -/
theorem l1In_eq (a b c : Int) : spec_l1In.f a b c = some (decide (b ≤ a ∧ a ≤ c)) := within_gen (fun _ _ _ => rfl) a b c

/-! beTune -/
theorem beTune_in {l : List ByteArray} {j : Nat} {s : ByteArray} {R : Bool} (hs : s.size ≤ 8) (hj : j < 1000000) (hR : Ev (fun k => spec_beTune.l0 k l (l.length : Int) (j + 1 : Nat)) R) : ∀ (d i : Nat), i + d = s.size → Ev (fun k => spec_beTune.l1 k s i l (l.length : Int) j) (((List.range s.size).drop i).all (okB s) && R) := by
  intro d
  induction d with
  | zero =>
    intro i a
    refine ev_succ ?_
    simp only [spec_beTune.l1]
    rw [List.drop_of_length_le (by simp; omega), w64 (x := (j : Int) + 1) (by omega) (by omega)]
    exact ev_f (by omega) (by simpa using hR)
  | succ d ih =>
    intro i a
    rw [range_drop _ _ (by omega), List.all_cons]
    refine ev_succ ?_
    simp only [spec_beTune.l1]
    refine ev_t (by omega) (ev_t (by omega) ?_)
    by_cases c1 : bt s i < 49
    · have e : okB s i = false := decide_eq_false (by omega)
      rw [e]
      exact ev_t c1 (ev_now _)
    · refine ev_f c1 ?_
      by_cases c2 : bt s i > 56
      · have e : okB s i = false := decide_eq_false (by omega)
        rw [e]
        exact ev_t c2 (ev_now _)
      · have e : okB s i = true := decide_eq_true (by omega)
        rw [e, w64 (x := (i : Int) + 1) (by omega) (by omega)]
        exact ev_f c2 (ih (i + 1) (by omega))
theorem beTune_ev (l : List ByteArray) : Ev (fun k => spec_beTune.f k l) (tuneB l) := by
  unfold spec_beTune.f
  refine ev_p (l1In_eq _ _ _) ?_
  by_cases c : 1 ≤ (l.length : Int) ∧ (l.length : Int) ≤ 12
  · refine ev_t (decide_eq_true c) ?_
    have e : tuneB l = l.all phraseB := by
      unfold tuneB
      rw [decide_eq_true c]
      rfl
    rw [e]
    have go : ∀ (d j : Nat), j + d = l.length → Ev (fun k => spec_beTune.l0 k l (l.length : Int) j) ((l.drop j).all phraseB) := by
      intro d
      induction d with
      | zero =>
        intro j a
        refine ev_one fun k => ?_
        simp only [spec_beTune.l0]
        rw [if_neg (by omega), List.drop_of_length_le (by omega)]
        rfl
      | succ d ih =>
        intro j a
        rw [List.drop_eq_getElem_cons (show j < l.length by omega), List.all_cons]
        refine ev_succ ?_
        simp only [spec_beTune.l0]
        refine ev_t (by omega) (ev_t (by omega) (ev_t (by omega) (ev_p (l1In_eq _ _ _) ?_)))
        rw [rdS_get l j (by omega)]
        by_cases g : 1 ≤ (l[j].size : Int) ∧ (l[j].size : Int) ≤ 8
        · refine ev_t (decide_eq_true g) ?_
          have e2 : phraseB l[j] = (List.range l[j].size).all (okB l[j]) := by
            unfold phraseB
            rw [decide_eq_true g]
            rfl
          rw [e2]
          have := beTune_in (l := l) (j := j) (s := l[j]) (by omega) (by omega) (ih (j + 1) (by omega)) l[j].size 0 (by omega)
          rw [List.drop_zero] at this
          exact this
        · refine ev_f (by simp only [decide_eq_true_eq]; exact g) ?_
          have e2 : phraseB l[j] = false := by
            unfold phraseB
            rw [decide_eq_false g]
            rfl
          rw [e2]
          exact ev_now _
    have := go l.length 0 (by omega)
    rw [List.drop_zero] at this
    exact this
  · refine ev_f (by simp only [decide_eq_true_eq]; exact c) ?_
    have e : tuneB l = false := by
      unfold tuneB
      rw [decide_eq_false c]
      rfl
    rw [e]
    exact ev_now _

/-! beAsked -/
def askB (l : List ByteArray) (q : Int) : Bool := tuneB l && decide (0 ≤ q ∧ q ≤ 1000000)
theorem askB_of {l : List ByteArray} {q : Int} (h : askB l q = true) : tuneB l = true ∧ 0 ≤ q ∧ q ≤ 1000000 := by
  unfold askB at h
  simpa using h
theorem beAsked_ev (l : List ByteArray) (q : Int) : Ev (fun k => spec_beAsked.f k l q) (askB l q) := by
  unfold spec_beAsked.f askB
  refine Ev.bind (beTune_ev l) ?_
  cases tuneB l
  · exact ev_f (by simp) (ev_now _)
  · refine ev_t rfl (ev_p (l1In_eq _ _ _) (ev_con ?_))
    simp

/-! within -/
theorem within_eq (a b c : Int) : impl_within.f a b c = some (decide (b ≤ a ∧ a ≤ c)) := within_gen (fun _ _ _ => rfl) a b c

/-! isPhrase -/
theorem isPhrase_go (s : ByteArray) (hs : s.size ≤ 1000000000) : ∀ (d i : Nat), i + d = s.size → Ev (fun k => impl_isPhrase.l0 k s (s.size : Int) i) (((List.range s.size).drop i).all (okB s) && decide (1 ≤ (s.size : Int) ∧ (s.size : Int) ≤ 8)) := by
  intro d
  induction d with
  | zero =>
    intro i a
    refine ev_succ ?_
    simp only [impl_isPhrase.l0]
    rw [List.drop_of_length_le (by simp; omega)]
    exact ev_f (by omega) (ev_p (within_eq _ _ _) (ev_con (by simp)))
  | succ d ih =>
    intro i a
    rw [range_drop _ _ (by omega), List.all_cons]
    refine ev_succ ?_
    simp only [impl_isPhrase.l0]
    refine ev_t (by omega) (ev_t (by omega) (ev_t (by omega) ?_))
    by_cases c1 : bt s i < 49
    · have e : okB s i = false := decide_eq_false (by omega)
      rw [e]
      exact ev_t c1 (ev_now _)
    · refine ev_f c1 ?_
      by_cases c2 : bt s i > 56
      · have e : okB s i = false := decide_eq_false (by omega)
        rw [e]
        exact ev_t c2 (ev_now _)
      · have e : okB s i = true := decide_eq_true (by omega)
        rw [e, w64 (by omega) (by omega)]
        exact ev_f c2 (ih (i + 1) (by omega))
theorem isPhrase_ev (s : ByteArray) (hs : s.size ≤ 1000000000) : Ev (fun k => impl_isPhrase.f k s) (phraseB s) := by
  have := isPhrase_go s hs s.size 0 (by omega)
  rw [List.drop_zero, Bool.and_comm] at this
  unfold impl_isPhrase.f
  exact this

/-! IsTune -/
theorem anyBad_ev : ∀ (l : List ByteArray), (∀ s ∈ l, s.size ≤ 1000000000) → Ev (fun k => anyBad k l) (!(l.all phraseB))
  | [], _ => ev_con rfl
  | s :: l, h => by
    simp only [anyBad, List.all_cons]
    refine Ev.bind (isPhrase_ev s (h s List.mem_cons_self)) ?_
    cases c : phraseB s
    · exact ev_f (by simp) (ev_now _)
    · exact ev_t rfl (by simpa using anyBad_ev l (fun x hx => h x (List.mem_cons_of_mem _ hx)))
theorem isTune_ev (l : List ByteArray) (h : ∀ s ∈ l, s.size ≤ 1000000000) : Ev (fun k => impl_IsTune.f k l) (tuneB l) := by
  unfold impl_IsTune.f
  refine ev_p (within_eq _ _ _) ?_
  by_cases c : 1 ≤ (l.length : Int) ∧ (l.length : Int) ≤ 12
  · refine ev_t (decide_eq_true c) (Ev.bind (anyBad_ev l h) (ev_con ?_))
    unfold tuneB
    rw [decide_eq_true c]
    simp
  · refine ev_f (by simp only [decide_eq_true_eq]; exact c) (ev_con ?_)
    unfold tuneB
    rw [decide_eq_false c]
    rfl

/-! isQuarter -/
theorem isQuarter_ev (l : List ByteArray) (q : Int) (h : ∀ s ∈ l, s.size ≤ 1000000000) : Ev (fun k => impl_isQuarter.f k l q) (askB l q) := by
  unfold impl_isQuarter.f askB
  refine Ev.bind (isTune_ev l h) ?_
  cases tuneB l
  · exact ev_f (by simp) (ev_now _)
  · refine ev_t rfl (ev_p (within_eq _ _ _) (ev_con ?_))
    simp

/-! playP -/
def playP (q : Int) : Int := q / 4 * 10 + (q % 4) * (q % 4 + 1) / 2
theorem playP_nn {q : Int} (h : 0 ≤ q) : 0 ≤ playP q ∧ playP q ≤ 10 * q + 6 := by
  have m : 0 ≤ q % 4 ∧ q % 4 ≤ 3 := by omega
  have p : 0 ≤ (q % 4) * (q % 4 + 1) ∧ (q % 4) * (q % 4 + 1) ≤ 12 := mul_bd (A := 3) (B := 4) m.1 m.2 (by omega) (by omega)
  unfold playP
  omega
theorem playP_step (q : Int) : playP (q + 1) = playP q + (q % 4 + 1) := by
  have c : q % 4 = 0 ∨ q % 4 = 1 ∨ q % 4 = 2 ∨ q % 4 = 3 := by omega
  unfold playP
  rcases c with c | c | c | c
  · rw [c, show (q + 1) % 4 = 1 by omega, show (q + 1) / 4 = q / 4 by omega]
    omega
  · rw [c, show (q + 1) % 4 = 2 by omega, show (q + 1) / 4 = q / 4 by omega]
    omega
  · rw [c, show (q + 1) % 4 = 3 by omega, show (q + 1) / 4 = q / 4 by omega]
    omega
  · rw [c, show (q + 1) % 4 = 0 by omega, show (q + 1) / 4 = q / 4 + 1 by omega]
    omega
theorem playP_hour (q h : Int) : playP (q + 4 * h) = playP q + 10 * h := by
  unfold playP
  rw [show (q + 4 * h) % 4 = q % 4 by omega, show (q + 4 * h) / 4 = q / 4 + h by omega]
  generalize (q % 4) * (q % 4 + 1) / 2 = z
  omega

/-! played -/
theorem played_eq {q : Int} (h0 : 0 ≤ q) (h1 : q ≤ 1000000000) : impl_played.f q = some (playP q) := by
  unfold impl_played.f playP
  rw [tdiv_e h0, tmod_e h0]
  have m : 0 ≤ q % 4 ∧ q % 4 ≤ 3 := by omega
  have p : 0 ≤ (q % 4) * (q % 4 + 1) ∧ (q % 4) * (q % 4 + 1) ≤ 12 := mul_bd (A := 3) (B := 4) m.1 m.2 (by omega) (by omega)
  rw [w64 (x := q / 4) (by omega) (by omega), w64 (x := q / 4 * 10) (by omega) (by omega), w64 (x := q % 4 + 1) (by omega) (by omega), w64 (x := (q % 4) * (q % 4 + 1)) (by omega) (by omega), tdiv_e p.1, w64 (x := (q % 4) * (q % 4 + 1) / 2) (by omega) (by omega), w64 (by omega) (by omega)]

/-! beBefore -/
theorem beBefore_eq {q : Int} (h0 : 0 ≤ q) (h1 : q ≤ 1000000000) : spec_beBefore.f q = some (playP q) := by
  unfold spec_beBefore.f playP
  rw [tdiv_e h0, tmod_e h0]
  have m : 0 ≤ q % 4 ∧ q % 4 ≤ 3 := by omega
  have p : 0 ≤ (q % 4) * (q % 4 + 1) ∧ (q % 4) * (q % 4 + 1) ≤ 12 := mul_bd (A := 3) (B := 4) m.1 m.2 (by omega) (by omega)
  rw [w64 (x := q / 4) (by omega) (by omega), w64 (x := q / 4 * 10) (by omega) (by omega), w64 (x := q % 4 + 1) (by omega) (by omega), w64 (x := (q % 4) * (q % 4 + 1)) (by omega) (by omega), tdiv_e p.1, w64 (x := (q % 4) * (q % 4 + 1) / 2) (by omega) (by omega), w64 (by omega) (by omega)]

/-! NotesUpTo -/
def twP (len n i : Int) : Int := if i < n % len then n / len + 1 else n / len
def sumN (len n : Int) : List ByteArray → Int → Int
  | [], _ => 0
  | s :: l, i => (s.size : Int) * twP len n i + sumN len n l (i + 1)
theorem twP_bd {len n i : Int} (hl : 1 ≤ len) (h0 : 0 ≤ n) (h1 : n ≤ 100000000) : 0 ≤ twP len n i ∧ twP len n i ≤ 100000001 := by
  have := div_le h0 hl
  unfold twP
  split <;> omega
def szL (l : List ByteArray) : List Int := l.map fun s => (s.size : Int)
theorem beTimes_go {l : List ByteArray} {n : Int} (h : tuneB l = true) (h0 : 0 ≤ n) (h1 : n ≤ 100000000) : ∀ (d j : Nat) (acc : Int), j + d = l.length → 0 ≤ acc → acc ≤ 10000000000 * j → Ev (fun k => spec_beTimes.l0 k (szL l) n acc (szL l) ((szL l).length : Int) j) (acc + sumN (l.length : Int) n (l.drop j) j) := by
  have t := tuneB_of h
  have hz : (szL l).length = l.length := by simp [szL]
  intro d
  induction d with
  | zero =>
    intro j acc a b c
    refine ev_one fun k => ?_
    simp only [spec_beTimes.l0]
    rw [hz, if_neg (by omega), List.drop_of_length_le (by omega)]
    simp [sumN]
  | succ d ih =>
    intro j acc a b c
    have hj : j < l.length := by omega
    have e : rd (szL l) j = (l[j].size : Int) := by
      unfold rd szL
      rw [List.getD_eq_getElem?_getD, show ((j : Int)).toNat = j by omega, List.getElem?_map, List.getElem?_eq_getElem hj]
      rfl
    have m := t.2.2 _ (List.getElem_mem hj)
    have w := twP_bd (len := (l.length : Int)) (n := n) (i := j) (by omega) h0 h1
    have q := div_le (a := n) (b := (l.length : Int)) h0 (by omega)
    have p := mul_bd (a := (l[j].size : Int)) (b := twP (l.length : Int) n j) (A := 8) (B := 100000001) (by omega) (by omega) w.1 w.2
    have st := ih (j + 1) (acc + (l[j].size : Int) * twP (l.length : Int) n j) (by omega) (by omega) (by omega)
    rw [List.drop_eq_getElem_cons hj]
    simp only [sumN]
    rw [← Int.add_assoc]
    refine ev_succ ?_
    simp only [spec_beTimes.l0]
    rw [hz] at st ⊢
    rw [e, tmod_e h0, tdiv_e h0, w64 (x := n / (l.length : Int)) (by omega) (by omega), w64 (x := n / (l.length : Int) + 1) (by omega) (by omega), w64 (x := (j : Int) + 1) (by omega) (by omega)]
    refine ev_t (by omega) (ev_t (by omega) (ev_t (by omega) (ev_f (by omega) ?_)))
    unfold twP at st p ⊢
    by_cases g : (j : Int) < n % (l.length : Int)
    · rw [if_pos g] at st p ⊢
      refine ev_t g ?_
      rw [w64 (x := (l[j].size : Int) * (n / (l.length : Int) + 1)) (by omega) (by omega), w64 (by omega) (by omega)]
      exact st
    · rw [if_neg g] at st p ⊢
      refine ev_f g ?_
      rw [w64 (x := (l[j].size : Int) * (n / (l.length : Int))) (by omega) (by omega), w64 (by omega) (by omega)]
      exact st
theorem sumUp_go {l : List ByteArray} {n : Int} (h : tuneB l = true) (h0 : 0 ≤ n) (h1 : n ≤ 100000000) : ∀ (d j : Nat) (acc : Int), j + d = l.length → 0 ≤ acc → acc ≤ 10000000000 * j → Ev (fun k => impl_sumUpTo.l0 k l n acc l (l.length : Int) j) (acc + sumN (l.length : Int) n (l.drop j) j) := by
  have t := tuneB_of h
  intro d
  induction d with
  | zero =>
    intro j acc a b c
    refine ev_one fun k => ?_
    simp only [impl_sumUpTo.l0]
    rw [if_neg (by omega), List.drop_of_length_le (by omega)]
    simp [sumN]
  | succ d ih =>
    intro j acc a b c
    have hj : j < l.length := by omega
    have m := t.2.2 _ (List.getElem_mem hj)
    have w := twP_bd (len := (l.length : Int)) (n := n) (i := j) (by omega) h0 h1
    have q := div_le (a := n) (b := (l.length : Int)) h0 (by omega)
    have p := mul_bd (a := (l[j].size : Int)) (b := twP (l.length : Int) n j) (A := 8) (B := 100000001) (by omega) (by omega) w.1 w.2
    have st := ih (j + 1) (acc + (l[j].size : Int) * twP (l.length : Int) n j) (by omega) (by omega) (by omega)
    rw [List.drop_eq_getElem_cons hj]
    simp only [sumN]
    rw [← Int.add_assoc]
    refine ev_succ ?_
    simp only [impl_sumUpTo.l0, impl_NotesUpTo_1.f, Option.bind_some]
    rw [rdS_get l j hj, tmod_e h0, tdiv_e h0, w64 (x := n / (l.length : Int)) (by omega) (by omega), w64 (x := n / (l.length : Int) + 1) (by omega) (by omega), w64 (x := (j : Int) + 1) (by omega) (by omega)]
    refine ev_t (by omega) (ev_t (by omega) (ev_t (by omega) (ev_f (by omega) ?_)))
    unfold twP at st p ⊢
    by_cases g : (j : Int) < n % (l.length : Int)
    · rw [if_pos g] at st p ⊢
      refine ev_t g ?_
      rw [Int.mul_comm (n / (l.length : Int) + 1), w64 (x := (l[j].size : Int) * (n / (l.length : Int) + 1)) (by omega) (by omega), w64 (by omega) (by omega)]
      exact st
    · rw [if_neg g] at st p ⊢
      refine ev_f g ?_
      rw [Int.mul_comm (n / (l.length : Int)), w64 (x := (l[j].size : Int) * (n / (l.length : Int))) (by omega) (by omega), w64 (by omega) (by omega)]
      exact st
def NotesUpP (l : List ByteArray) (q : Int) : Int × Bool := if askB l q = true then (sumN (l.length : Int) (playP q) l 0, true) else (0, false)
theorem NotesUpTo_spec (l : List ByteArray) (q : Int) : Ev (fun k => spec_NotesUpTo.f k l q) (NotesUpP l q) := by
  unfold spec_NotesUpTo.f NotesUpP
  refine Ev.bind (beAsked_ev l q) ?_
  by_cases h : askB l q = true
  · have a := askB_of h
    have t := tuneB_of a.1
    have p := playP_nn a.2.1
    refine ev_t h ?_
    rw [if_pos h]
    have go : ∀ (d j : Nat), j + d = l.length → Ev (fun k => spec_NotesUpTo.l0 k q ((szL l).take j) l (l.length : Int) j) (sumN (l.length : Int) (playP q) l 0, true) := by
      intro d
      induction d with
      | zero =>
        intro j b
        refine ev_succ ?_
        simp only [spec_NotesUpTo.l0]
        refine ev_f (by omega) (ev_p (beBefore_eq a.2.1 (by omega)) ?_)
        rw [List.take_of_length_le (by simp [szL]; omega)]
        have z := beTimes_go a.1 p.1 (by omega) l.length 0 0 (by omega) (by omega) (by omega)
        rw [List.drop_zero, Int.zero_add] at z
        have z' : Ev (fun k => spec_beTimes.f k (szL l) (playP q)) (sumN (l.length : Int) (playP q) l 0) := z
        exact Ev.bind z' (ev_now _)
      | succ d ih =>
        intro j b
        have hj : j < l.length := by omega
        have e : (szL l).take j ++ [(l[j].size : Int)] = (szL l).take (j + 1) := by
          rw [List.take_succ_eq_append_getElem (by simp [szL]; omega)]
          simp [szL]
        refine ev_succ ?_
        simp only [spec_NotesUpTo.l0]
        rw [rdS_get l j hj, e, w64 (x := (j : Int) + 1) (by omega) (by omega)]
        exact ev_t (by omega) (ev_t (by omega) (ev_t (by omega) (ev_t (by simp; omega) (ih (j + 1) (by omega)))))
    have := go l.length 0 (by omega)
    rw [List.take_zero] at this
    exact this
  · refine ev_f h ?_
    rw [if_neg h]
    exact ev_now _
theorem NotesUpTo_impl (l : List ByteArray) (q : Int) (hs : ∀ s ∈ l, s.size ≤ 1000000000) : Ev (fun k => impl_NotesUpTo.f k l q) (NotesUpP l q) := by
  unfold impl_NotesUpTo.f NotesUpP
  refine Ev.bind (isQuarter_ev l q hs) ?_
  by_cases h : askB l q = true
  · have a := askB_of h
    have p := playP_nn a.2.1
    refine ev_t h ?_
    rw [if_pos h]
    have z := sumUp_go a.1 p.1 (by omega) l.length 0 0 (by omega) (by omega) (by omega)
    rw [List.drop_zero, Int.zero_add] at z
    have z' : Ev (fun k => impl_sumUpTo.f k l q) (sumN (l.length : Int) (playP q) l 0) := by
      unfold impl_sumUpTo.f
      exact ev_p (played_eq a.2.1 (by omega)) z
    exact Ev.bind z' (ev_now _)
  · refine ev_f h ?_
    rw [if_neg h]
    exact ev_now _

/-! the law -/
theorem law_of {R : _} (l0 : List ByteArray) (a1 : Int) (hl : l0.length + sumS l0 ≤ 1048576) (hs : Ev (fun k => spec_NotesUpTo.f k l0 a1) R) (hi : Ev (fun k => impl_NotesUpTo.f k l0 a1) R) : Ev (fun k => laws_FnExactNotesUpTo.f k l0 a1) true := by
  have hm : ∀ s ∈ l0, s.size ≤ maxLen := fun s h => by have := sumS_mem h; unfold maxLen; omega
  have ht := toStringS_ev l0 (by omega)
  have he := eqStringS_ev l0 (by omega)
  have hz := szStringS_ev (l := l0) (n := 1048576) hm (by unfold maxLen; omega) (by omega) (by omega)
  rw [szP_pos (by omega)] at hz
  unfold laws_FnExactNotesUpTo.f
  refine Ev.bind hz (ev_f (by omega) (Ev.bind ht (Ev.bind hs (Ev.bind ht (Ev.bind hi ?_)))))
  refine ev_t rfl (ev_succ ?_)
  simp only [laws_FnExactNotesUpTo.j0]
  exact ev_f (by simp) (Ev.bind ht (Ev.bind he (ev_t rfl (ev_now true))))
theorem law (l0 : List ByteArray) (a1 : Int) (hn0 : l0.length ≤ maxLen) (hw0 : ∀ s ∈ l0, s.size ≤ maxLen) (w1 : (Lit.int .i64 a1).wf = true) : ∃ k, laws_FnExactNotesUpTo.f k l0 a1 = some true := by
  refine Ev.rounds (g := fun k => laws_FnExactNotesUpTo.f k l0 a1) ?_
  by_cases hl : l0.length + sumS l0 ≤ 1048576
  · have hb : ∀ s ∈ l0, s.size ≤ 1000000000 := fun s h => by have := sumS_mem h; omega
    exact law_of l0 a1 hl (NotesUpTo_spec _ _) (NotesUpTo_impl _ _ hb)
  · have hz := szStringS_ev (l := l0) (n := 1048576) hw0 hn0 (by omega) (by omega)
    rw [szP_neg (by omega)] at hz
    unfold laws_FnExactNotesUpTo.f
    exact Ev.bind hz (ev_t (by omega) (ev_now true))

end Go.Proofs.Ytmhnbjoepgdiaaa.Pure.FnExactNotesUpToWay
