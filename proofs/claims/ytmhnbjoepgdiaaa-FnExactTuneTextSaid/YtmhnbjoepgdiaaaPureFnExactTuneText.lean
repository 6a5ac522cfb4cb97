/- FnExactTuneText: the law's printed function answers true at every input. -/
import Derived.Test.YtmhnbjoepgdiaaaGFnExactTuneTextx2
import Derived.Test.YtmhnbjoepgdiaaaLib
import Derived.Test.YtmhnbjoepgdiaaaLibRows
import Derived.Test.YtmhnbjoepgdiaaaLibGcd
set_option linter.unusedVariables false
set_option linter.unusedSimpArgs false
namespace Go.Proofs.Ytmhnbjoepgdiaaa.Pure.FnExactTuneTextWay
open Go.RowKit Go.Proofs.Ytmhnbjoepgdiaaa.GFnExactTuneText Go.Proofs.YtmhnbjoepgdiaaaW.PrintWords Go.Proofs.YtmhnbjoepgdiaaaW.PrintLast Go.Proofs.YtmhnbjoepgdiaaaW.PrintMore Go.Proofs.Ytmhnbjoepgdiaaa.Lib

/-! strSize -/
theorem empty_size : (⟨#[]⟩ : ByteArray).size = 0 := rfl
theorem rdS_mem (l : List ByteArray) (i : Int) (h0 : 0 ≤ i) (h : i < (l.length : Int)) : rdOf ByteArray.empty l i ∈ l := by
  unfold rdOf
  rw [List.getD_eq_getElem?_getD, List.getElem?_eq_getElem (by omega)]
  exact List.getElem_mem _
theorem rdS_get (l : List ByteArray) (i : Nat) (h : i < l.length) : rdOf ByteArray.empty l i = l[i] := by
  unfold rdOf
  rw [List.getD_eq_getElem?_getD, show ((i : Int)).toNat = i by omega, List.getElem?_eq_getElem h]
  rfl

/-! szStringS -/
def sumS : List ByteArray → Nat
  | [] => 0
  | s :: l => s.size + sumS l
theorem sumS_mem {s : ByteArray} : ∀ {l : List ByteArray}, s ∈ l → s.size ≤ sumS l
  | [], h => by simp at h
  | t :: l, h => by
    rcases List.mem_cons.1 h with rfl | h
    · simp only [sumS]
      omega
    · have := sumS_mem h
      simp only [sumS]
      omega
def szR (n : Int) (m : Nat) : Int := if (m : Int) ≤ n then n - (m : Int) else -1
theorem szR_zero {n : Int} (h : 0 ≤ n) : szR n 0 = n := by
  unfold szR
  rw [if_pos (by omega)]
  omega
theorem szR_cons {n : Int} {a : Nat} (b : Nat) (h : (a : Int) ≤ n) : szR n (a + b) = szR (n - a) b := by
  unfold szR
  split <;> split <;> omega
theorem szR_neg {n : Int} {a : Nat} (b : Nat) (h : ¬ (a : Int) ≤ n) : szR n (a + b) = -1 := by
  unfold szR
  rw [if_neg (by omega)]
def szP (l : List ByteArray) (n : Int) : Int := szR n (l.length + sumS l)
theorem szStringS_go {l : List ByteArray} (hs : ∀ s ∈ l, s.size ≤ maxLen) (hl : l.length ≤ 1048576) : ∀ (d j : Nat) (n : Int), j + d = l.length → 0 ≤ n → n ≤ 1048576 → Ev (fun k => laws_szStringS.l0 k l n j) (szR n (sumS (l.drop j))) := by
  intro d
  induction d with
  | zero =>
    intro j n a b c
    refine ev_one fun k => ?_
    simp only [laws_szStringS.l0]
    rw [if_neg (by omega), List.drop_of_length_le (by omega)]
    show some n = some (szR n 0)
    rw [szR_zero b]
  | succ d ih =>
    intro j n a b c
    have m := hs _ (rdS_mem l j (by omega) (by omega))
    unfold maxLen at m
    rw [List.drop_eq_getElem_cons (show j < l.length by omega)]
    refine ev_succ ?_
    simp only [laws_szStringS.l0]
    refine ev_t (by omega) (ev_t (by omega) ?_)
    rw [rdS_get l j (by omega)] at m ⊢
    rw [w64 (x := n - (l[j].size : Int)) (by omega) (by omega), w64 (x := (j : Int) + 1) (by omega) (by omega)]
    show Ev _ (szR n (l[j].size + sumS (l.drop (j + 1))))
    by_cases g : (l[j].size : Int) ≤ n
    · rw [szR_cons _ g]
      exact ev_f (by omega) (ih (j + 1) (n - (l[j].size : Int)) (by omega) (by omega) (by omega))
    · rw [szR_neg _ g]
      exact ev_t (by omega) (ev_now _)
theorem szStringS_ev {l : List ByteArray} {n : Int} (hs : ∀ s ∈ l, s.size ≤ maxLen) (hl : l.length ≤ maxLen) (h0 : 0 ≤ n) (h1 : n ≤ 1048576) : Ev (fun k => laws_szStringS.f k l n) (szP l n) := by
  unfold maxLen at hl
  unfold laws_szStringS.f szP
  rw [w64 (by omega) (by omega)]
  by_cases c : (l.length : Int) ≤ n
  · rw [szR_cons _ c]
    have := szStringS_go hs (by omega) l.length 0 (n - (l.length : Int)) (by omega) (by omega) (by omega)
    rw [List.drop_zero] at this
    exact ev_f (by omega) this
  · rw [szR_neg _ c]
    exact ev_t (by omega) (ev_now _)
theorem szP_pos {l : List ByteArray} {n : Int} (h : (l.length : Int) + (sumS l : Int) ≤ n) : szP l n = n - ((l.length : Int) + (sumS l : Int)) := by
  unfold szP szR
  rw [if_pos (by omega)]
  omega
theorem szP_neg {l : List ByteArray} {n : Int} (h : ¬ (l.length : Int) + (sumS l : Int) ≤ n) : szP l n = -1 := by
  unfold szP szR
  rw [if_neg (by omega)]

/-! toStringS -/
theorem toStringS_ev (l : List ByteArray) (h : l.length ≤ 1000000000) : Ev (fun k => laws_toStringS.f k l) l := by
  unfold laws_toStringS.f
  refine ev_t (by omega) (ev_t (by omega) ?_)
  have := copy_gen (cv := fun s : ByteArray => s) (d := ByteArray.empty) (l0 := laws_toStringS.l0) (by
    intro k xs ys i a b c d
    simp only [laws_toStringS.l0]
    rw [if_pos b, if_pos a, if_pos (by omega), w64 (by omega) (by omega)]
    rfl) (by
    intro k xs ys i a
    simp only [laws_toStringS.l0]
    rw [if_neg a]) l (List.replicate ((l.length : Int) : Int).toNat (⟨#[]⟩ : ByteArray)) (by simp) h
  simpa using this

/-! eqStringS -/
theorem eqStringS_ev (l : List ByteArray) (h : l.length ≤ 1000000000) : Ev (fun k => laws_eqStringS.f k l l) true := by
  unfold laws_eqStringS.f
  refine ev_t rfl ?_
  exact scan_gen (g := fun i k => laws_eqStringS.l0 k l l i) (n := l.length) (fun i a b ih => by
    refine ev_succ ?_
    simp only [laws_eqStringS.l0]
    refine ev_t b (ev_t a (ev_t b (ev_t (by first | rfl | trivial) ?_)))
    rw [w64 (by omega) (by omega)]
    exact ih) (by
    refine ev_one fun k => ?_
    simp only [laws_eqStringS.l0]
    rw [if_neg (by omega)]) 0 (by omega) (by omega)

/-! phraseB -/
def okB (s : ByteArray) (i : Nat) : Bool := decide (49 ≤ bt s i ∧ bt s i ≤ 56)
def phraseB (s : ByteArray) : Bool := decide (1 ≤ (s.size : Int) ∧ (s.size : Int) ≤ 8) && (List.range s.size).all (okB s)
def tuneB (l : List ByteArray) : Bool := decide (1 ≤ (l.length : Int) ∧ (l.length : Int) ≤ 12) && l.all phraseB
theorem tuneB_of {l : List ByteArray} (h : tuneB l = true) : 1 ≤ l.length ∧ l.length ≤ 12 ∧ ∀ s ∈ l, 1 ≤ s.size ∧ s.size ≤ 8 ∧ ∀ i : Nat, i < s.size → 49 ≤ bt s i ∧ bt s i ≤ 56 := by
  unfold tuneB at h
  simp only [Bool.and_eq_true, decide_eq_true_eq, List.all_eq_true] at h
  refine ⟨by omega, by omega, fun s hs => ?_⟩
  have g := h.2 s hs
  unfold phraseB at g
  simp only [Bool.and_eq_true, decide_eq_true_eq, List.all_eq_true, List.mem_range] at g
  refine ⟨by omega, by omega, fun i hi => ?_⟩
  have := g.2 i hi
  unfold okB at this
  simpa using this
theorem range_drop (n i : Nat) (h : i < n) : (List.range n).drop i = i :: (List.range n).drop (i + 1) := by
  rw [List.drop_eq_getElem_cons (by simpa using h)]
  simp

/-! within -/
theorem within_eq (a b c : Int) : impl_within.f a b c = some (decide (b ≤ a ∧ a ≤ c)) := within_gen (fun _ _ _ => rfl) a b c

/-! isPhrase -/
theorem isPhrase_go (s : ByteArray) (hs : s.size ≤ 1000000000) : ∀ (d i : Nat), i + d = s.size → Ev (fun k => impl_isPhrase.l0 k s (s.size : Int) i) (((List.range s.size).drop i).all (okB s) && decide (1 ≤ (s.size : Int) ∧ (s.size : Int) ≤ 8)) := by
  intro d
  induction d with
  | zero =>
    intro i a
    refine ev_succ ?_
    simp only [impl_isPhrase.l0]
    rw [List.drop_of_length_le (by simp; omega)]
    exact ev_f (by omega) (ev_p (within_eq _ _ _) (ev_con (by simp)))
  | succ d ih =>
    intro i a
    rw [range_drop _ _ (by omega), List.all_cons]
    refine ev_succ ?_
    simp only [impl_isPhrase.l0]
    refine ev_t (by omega) (ev_t (by omega) (ev_t (by omega) ?_))
    by_cases c1 : bt s i < 49
    · have e : okB s i = false := decide_eq_false (by omega)
      rw [e]
      exact ev_t c1 (ev_now _)
    · refine ev_f c1 ?_
      by_cases c2 : bt s i > 56
      · have e : okB s i = false := decide_eq_false (by omega)
        rw [e]
        exact ev_t c2 (ev_now _)
      · have e : okB s i = true := decide_eq_true (by omega)
        rw [e, w64 (by omega) (by omega)]
        exact ev_f c2 (ih (i + 1) (by omega))
theorem isPhrase_ev (s : ByteArray) (hs : s.size ≤ 1000000000) : Ev (fun k => impl_isPhrase.f k s) (phraseB s) := by
  have := isPhrase_go s hs s.size 0 (by omega)
  rw [List.drop_zero, Bool.and_comm] at this
  unfold impl_isPhrase.f
  exact this

/-! IsTune -/
theorem anyBad_ev : ∀ (l : List ByteArray), (∀ s ∈ l, s.size ≤ 1000000000) → Ev (fun k => anyBad k l) (!(l.all phraseB))
  | [], _ => ev_con rfl
  | s :: l, h => by
    simp only [anyBad, List.all_cons]
    refine Ev.bind (isPhrase_ev s (h s List.mem_cons_self)) ?_
    cases c : phraseB s
    · exact ev_f (by simp) (ev_now _)
    · exact ev_t rfl (by simpa using anyBad_ev l (fun x hx => h x (List.mem_cons_of_mem _ hx)))
theorem isTune_ev (l : List ByteArray) (h : ∀ s ∈ l, s.size ≤ 1000000000) : Ev (fun k => impl_IsTune.f k l) (tuneB l) := by
  unfold impl_IsTune.f
  refine ev_p (within_eq _ _ _) ?_
  by_cases c : 1 ≤ (l.length : Int) ∧ (l.length : Int) ≤ 12
  · refine ev_t (decide_eq_true c) (Ev.bind (anyBad_ev l h) (ev_con ?_))
    unfold tuneB
    rw [decide_eq_true c]
    simp
  · refine ev_f (by simp only [decide_eq_true_eq]; exact c) (ev_con ?_)
    unfold tuneB
    rw [decide_eq_false c]
    rfl

/-! l1In -/
theorem l1In_eq (a b c : Int) : spec_l1In.f a b c = some (decide (b ≤ a ∧ a ≤ c)) := within_gen (fun _ _ _ => rfl) a b c

/-! beTune -/
theorem beTune_in {l : List ByteArray} {j : Nat} {s : ByteArray} {R : Bool} (hs : s.size ≤ 8) (hj : j < 1000000) (hR : Ev (fun k => spec_beTune.l0 k l (l.length : Int) (j + 1 : Nat)) R) : ∀ (d i : Nat), i + d = s.size → Ev (fun k => spec_beTune.l1 k s i l (l.length : Int) j) (((List.range s.size).drop i).all (okB s) && R) := by
  intro d
  induction d with
  | zero =>
    intro i a
    refine ev_succ ?_
    simp only [spec_beTune.l1]
    rw [List.drop_of_length_le (by simp; omega), w64 (x := (j : Int) + 1) (by omega) (by omega)]
    exact ev_f (by omega) (by simpa using hR)
  | succ d ih =>
    intro i a
    rw [range_drop _ _ (by omega), List.all_cons]
    refine ev_succ ?_
    simp only [spec_beTune.l1]
    refine ev_t (by omega) (ev_t (by omega) ?_)
    by_cases c1 : bt s i < 49
    · have e : okB s i = false := decide_eq_false (by omega)
      rw [e]
      exact ev_t c1 (ev_now _)
    · refine ev_f c1 ?_
      by_cases c2 : bt s i > 56
      · have e : okB s i = false := decide_eq_false (by omega)
        rw [e]
        exact ev_t c2 (ev_now _)
      · have e : okB s i = true := decide_eq_true (by omega)
        rw [e, w64 (x := (i : Int) + 1) (by omega) (by omega)]
        exact ev_f c2 (ih (i + 1) (by omega))
theorem beTune_ev (l : List ByteArray) : Ev (fun k => spec_beTune.f k l) (tuneB l) := by
  unfold spec_beTune.f
  refine ev_p (l1In_eq _ _ _) ?_
  by_cases c : 1 ≤ (l.length : Int) ∧ (l.length : Int) ≤ 12
  · refine ev_t (decide_eq_true c) ?_
    have e : tuneB l = l.all phraseB := by
      unfold tuneB
      rw [decide_eq_true c]
      rfl
    rw [e]
    have go : ∀ (d j : Nat), j + d = l.length → Ev (fun k => spec_beTune.l0 k l (l.length : Int) j) ((l.drop j).all phraseB) := by
      intro d
      induction d with
      | zero =>
        intro j a
        refine ev_one fun k => ?_
        simp only [spec_beTune.l0]
        rw [if_neg (by omega), List.drop_of_length_le (by omega)]
        rfl
      | succ d ih =>
        intro j a
        rw [List.drop_eq_getElem_cons (show j < l.length by omega), List.all_cons]
        refine ev_succ ?_
        simp only [spec_beTune.l0]
        refine ev_t (by omega) (ev_t (by omega) (ev_t (by omega) (ev_p (l1In_eq _ _ _) ?_)))
        rw [rdS_get l j (by omega)]
        by_cases g : 1 ≤ (l[j].size : Int) ∧ (l[j].size : Int) ≤ 8
        · refine ev_t (decide_eq_true g) ?_
          have e2 : phraseB l[j] = (List.range l[j].size).all (okB l[j]) := by
            unfold phraseB
            rw [decide_eq_true g]
            rfl
          rw [e2]
          have := beTune_in (l := l) (j := j) (s := l[j]) (by omega) (by omega) (ih (j + 1) (by omega)) l[j].size 0 (by omega)
          rw [List.drop_zero] at this
          exact this
        · refine ev_f (by simp only [decide_eq_true_eq]; exact g) ?_
          have e2 : phraseB l[j] = false := by
            unfold phraseB
            rw [decide_eq_false g]
            rfl
          rw [e2]
          exact ev_now _
    have := go l.length 0 (by omega)
    rw [List.drop_zero] at this
    exact this
  · refine ev_f (by simp only [decide_eq_true_eq]; exact c) ?_
    have e : tuneB l = false := by
      unfold tuneB
      rw [decide_eq_false c]
      rfl
    rw [e]
    exact ev_now _

/-! TuneText -/
def tlS : List ByteArray → ByteArray → ByteArray
  | [], a => a
  | s :: r, a => tlS r (a ++ (⟨#[47]⟩ : ByteArray) ++ s)
def txS : List ByteArray → ByteArray
  | [] => ⟨#[]⟩
  | s :: r => tlS r ((⟨#[]⟩ : ByteArray) ++ s)
theorem tlS_data : ∀ (r : List ByteArray) (a : ByteArray), (tlS r a).data.toList = a.data.toList ++ Lib.joinTail [47] (r.map (·.data.toList))
  | [], a => by simp [tlS, Lib.joinTail]
  | s :: r, a => by
    rw [tlS, tlS_data r]
    simp [Lib.joinTail, ByteArray.data_append]
theorem txS_eq (l : List ByteArray) : txS l = (⟨(joinL l).toArray⟩ : ByteArray) := by
  apply ByteArray.ext
  apply Array.ext'
  cases l with
  | nil => simp [txS, joinL, Lib.join_nil]
  | cons s r =>
    rw [txS, tlS_data]
    simp [joinL, Lib.join_cons, ByteArray.data_append]
theorem tlS_size : ∀ (r : List ByteArray) (a : ByteArray) (B : Nat), (∀ s ∈ r, s.size ≤ 8) → a.size + 9 * r.length ≤ B → (tlS r a).size ≤ B
  | [], a, B, _, h => by simpa [tlS] using h
  | s :: r, a, B, hs, h => by
    rw [tlS]
    refine tlS_size r _ B (fun x hx => hs x (List.mem_cons_of_mem _ hx)) ?_
    have := hs s List.mem_cons_self
    simp only [ByteArray.size_append, List.length_cons] at h ⊢
    have e1 : (⟨#[47]⟩ : ByteArray).size = 1 := rfl
    omega
theorem txS_size {l : List ByteArray} (h : tuneB l = true) : (txS l).size ≤ 200 := by
  have t := tuneB_of h
  cases l with
  | nil =>
    have e1 : (⟨#[]⟩ : ByteArray).size = 0 := rfl
    rw [txS, e1]
    omega
  | cons s r =>
    rw [txS]
    refine tlS_size r _ 200 (fun x hx => (t.2.2 x (List.mem_cons_of_mem _ hx)).2.1) ?_
    have e1 : (⟨#[]⟩ : ByteArray).size = 0 := rfl
    have := (t.2.2 s List.mem_cons_self).2.1
    have := t.2.1
    simp only [ByteArray.size_append, List.length_cons] at *
    omega
theorem beText_go {l : List ByteArray} (hs : ∀ s ∈ l, s.size ≤ 8) (hl : l.length ≤ 12) : ∀ (d j : Nat) (a : ByteArray), j + 1 + d = l.length → a.size ≤ 9 * (j + 1) → Ev (fun k => spec_beText.l0 k a l (l.length : Int) (j + 1 : Nat)) (tlS (l.drop (j + 1)) a) := by
  intro d
  induction d with
  | zero =>
    intro j a e ha
    refine ev_one fun k => ?_
    simp only [spec_beText.l0]
    rw [if_neg (by omega), List.drop_of_length_le (by omega)]
    rfl
  | succ d ih =>
    intro j a e ha
    have hj : j + 1 < l.length := by omega
    have e1 : (⟨#[47]⟩ : ByteArray).size = 1 := rfl
    have q := rdS_get l (j + 1) hj
    have qs := hs l[j + 1] (List.getElem_mem _)
    rw [List.drop_eq_getElem_cons hj, tlS]
    refine ev_succ ?_
    simp only [spec_beText.l0]
    rw [q, w64 (by omega) (by omega)]
    refine ev_t (by omega) (ev_t (by omega) (ev_t (by omega) (ev_t (by omega) (ev_t (by omega) (ev_t (by rw [ByteArray.size_append, e1]; omega) ?_)))))
    have := ih (j + 1) (a ++ (⟨#[47]⟩ : ByteArray) ++ l[j + 1]) (by omega) (by rw [ByteArray.size_append, ByteArray.size_append, e1]; omega)
    exact this
theorem beText_ev {l : List ByteArray} (h : tuneB l = true) : Ev (fun k => spec_beText.f k l) (txS l) := by
  have t := tuneB_of h
  have hs : ∀ s ∈ l, s.size ≤ 8 := fun s hs => (t.2.2 s hs).2.1
  have q := rdS_get l 0 (by omega)
  have e0 : (⟨#[]⟩ : ByteArray).size = 0 := rfl
  have qs := hs l[0] (List.getElem_mem _)
  have el : txS l = tlS (l.drop 1) ((⟨#[]⟩ : ByteArray) ++ l[0]) := by
    cases l with
    | nil => simp at t
    | cons s r => rfl
  have q' : rdOf ByteArray.empty l (0 : Int) = l[0] := q
  unfold spec_beText.f
  refine ev_succ ?_
  simp only [spec_beText.l0]
  rw [q', el, w64 (x := 0 + 1) (by omega) (by omega)]
  refine ev_t (by omega) (ev_t (by omega) (ev_t (by omega) (ev_f (by omega) (ev_t (by rw [e0]; omega) ?_))))
  have := beText_go hs t.2.1 (l.length - 1) 0 ((⟨#[]⟩ : ByteArray) ++ l[0]) (by omega) (by rw [ByteArray.size_append, e0]; omega)
  exact this
def TextP (l : List ByteArray) : ByteArray × Bool := if tuneB l = true then (txS l, true) else ((⟨#[]⟩ : ByteArray), false)
theorem TuneText_spec (l : List ByteArray) : Ev (fun k => spec_TuneText.f k l) (TextP l) := by
  unfold spec_TuneText.f TextP
  refine Ev.bind (beTune_ev l) ?_
  by_cases h : tuneB l = true
  · rw [if_pos h]
    exact ev_t h (Ev.bind (beText_ev h) (ev_now _))
  · rw [if_neg h]
    exact ev_f h (ev_now _)
theorem TuneText_impl (l : List ByteArray) (hs : ∀ s ∈ l, s.size ≤ 1000000000) : Ev (fun k => impl_TuneText.f k l) (TextP l) := by
  unfold impl_TuneText.f TextP
  refine Ev.bind (isTune_ev l hs) ?_
  by_cases h : tuneB l = true
  · have t := tuneB_of h
    have z := txS_size h
    have e : (joinL l).length = (txS l).size := by
      rw [txS_eq]
      simp [ByteArray.size]
    refine ev_t h (ev_t ⟨by omega, by omega, by omega⟩ ?_)
    rw [if_pos h, txS_eq]
    exact ev_now _
  · refine ev_f h ?_
    rw [if_neg h]
    exact ev_now _

/-! the law -/
theorem law_of {R : _} (l0 : List ByteArray) (hl : l0.length + sumS l0 ≤ 1048576) (hs : Ev (fun k => spec_TuneText.f k l0) R) (hi : Ev (fun k => impl_TuneText.f k l0) R) : Ev (fun k => laws_FnExactTuneText.f k l0) true := by
  have hm : ∀ s ∈ l0, s.size ≤ maxLen := fun s h => by have := sumS_mem h; unfold maxLen; omega
  have ht := toStringS_ev l0 (by omega)
  have he := eqStringS_ev l0 (by omega)
  have hz := szStringS_ev (l := l0) (n := 1048576) hm (by unfold maxLen; omega) (by omega) (by omega)
  rw [szP_pos (by omega)] at hz
  unfold laws_FnExactTuneText.f
  refine Ev.bind hz (ev_f (by omega) (Ev.bind ht (Ev.bind hs (Ev.bind ht (Ev.bind hi ?_)))))
  refine ev_t rfl (ev_succ ?_)
  simp only [laws_FnExactTuneText.j0]
  exact ev_f (by simp) (Ev.bind ht (Ev.bind he (ev_t rfl (ev_now true))))
theorem law (l0 : List ByteArray) (hn0 : l0.length ≤ maxLen) (hw0 : ∀ s ∈ l0, s.size ≤ maxLen) : ∃ k, laws_FnExactTuneText.f k l0 = some true := by
  refine Ev.rounds (g := fun k => laws_FnExactTuneText.f k l0) ?_
  by_cases hl : l0.length + sumS l0 ≤ 1048576
  · have hb : ∀ s ∈ l0, s.size ≤ 1000000000 := fun s h => by have := sumS_mem h; omega
    exact law_of l0 hl (TuneText_spec _) (TuneText_impl _ hb)
  · have hz := szStringS_ev (l := l0) (n := 1048576) hw0 hn0 (by omega) (by omega)
    rw [szP_neg (by omega)] at hz
    unfold laws_FnExactTuneText.f
    exact Ev.bind hz (ev_t (by omega) (ev_now true))

end Go.Proofs.Ytmhnbjoepgdiaaa.Pure.FnExactTuneTextWay
