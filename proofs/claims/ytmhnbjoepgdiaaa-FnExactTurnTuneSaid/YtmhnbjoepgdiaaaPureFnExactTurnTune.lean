/- FnExactTurnTune: the law's printed function answers true at every input. -/
import Derived.Test.YtmhnbjoepgdiaaaGFnExactTurnTunex3
import Derived.Test.YtmhnbjoepgdiaaaLib
import Derived.Test.YtmhnbjoepgdiaaaLibRows
import Derived.Test.YtmhnbjoepgdiaaaLibGcd
set_option linter.unusedVariables false
set_option linter.unusedSimpArgs false
namespace Go.Proofs.Ytmhnbjoepgdiaaa.Pure.FnExactTurnTuneWay
open Go.RowKit Go.Proofs.Ytmhnbjoepgdiaaa.GFnExactTurnTune Go.Proofs.YtmhnbjoepgdiaaaW.PrintWords Go.Proofs.YtmhnbjoepgdiaaaW.PrintLast Go.Proofs.YtmhnbjoepgdiaaaW.PrintMore Go.Proofs.Ytmhnbjoepgdiaaa.Lib

/-! strSize -/
theorem empty_size : (⟨#[]⟩ : ByteArray).size = 0 := rfl
theorem rdS_mem (l : List ByteArray) (i : Int) (h0 : 0 ≤ i) (h : i < (l.length : Int)) : rdOf ByteArray.empty l i ∈ l := by
  unfold rdOf
  rw [List.getD_eq_getElem?_getD, List.getElem?_eq_getElem (by omega)]
  exact List.getElem_mem _
theorem rdS_get (l : List ByteArray) (i : Nat) (h : i < l.length) : rdOf ByteArray.empty l i = l[i] := by
  unfold rdOf
  rw [List.getD_eq_getElem?_getD, show ((i : Int)).toNat = i by omega, List.getElem?_eq_getElem h]
  rfl

/-! szStringS -/
def sumS : List ByteArray → Nat
  | [] => 0
  | s :: l => s.size + sumS l
theorem sumS_mem {s : ByteArray} : ∀ {l : List ByteArray}, s ∈ l → s.size ≤ sumS l
  | [], h => by simp at h
  | t :: l, h => by
    rcases List.mem_cons.1 h with rfl | h
    · simp only [sumS]
      omega
    · have := sumS_mem h
      simp only [sumS]
      omega
def szR (n : Int) (m : Nat) : Int := if (m : Int) ≤ n then n - (m : Int) else -1
theorem szR_zero {n : Int} (h : 0 ≤ n) : szR n 0 = n := by
  unfold szR
  rw [if_pos (by omega)]
  omega
theorem szR_cons {n : Int} {a : Nat} (b : Nat) (h : (a : Int) ≤ n) : szR n (a + b) = szR (n - a) b := by
  unfold szR
  split <;> split <;> omega
theorem szR_neg {n : Int} {a : Nat} (b : Nat) (h : ¬ (a : Int) ≤ n) : szR n (a + b) = -1 := by
  unfold szR
  rw [if_neg (by omega)]
def szP (l : List ByteArray) (n : Int) : Int := szR n (l.length + sumS l)
theorem szStringS_go {l : List ByteArray} (hs : ∀ s ∈ l, s.size ≤ maxLen) (hl : l.length ≤ 1048576) : ∀ (d j : Nat) (n : Int), j + d = l.length → 0 ≤ n → n ≤ 1048576 → Ev (fun k => laws_szStringS.l0 k l n j) (szR n (sumS (l.drop j))) := by
  intro d
  induction d with
  | zero =>
    intro j n a b c
    refine ev_one fun k => ?_
    simp only [laws_szStringS.l0]
    rw [if_neg (by omega), List.drop_of_length_le (by omega)]
    show some n = some (szR n 0)
    rw [szR_zero b]
  | succ d ih =>
    intro j n a b c
    have m := hs _ (rdS_mem l j (by omega) (by omega))
    unfold maxLen at m
    rw [List.drop_eq_getElem_cons (show j < l.length by omega)]
    refine ev_succ ?_
    simp only [laws_szStringS.l0]
    refine ev_t (by omega) (ev_t (by omega) ?_)
    rw [rdS_get l j (by omega)] at m ⊢
    rw [w64 (x := n - (l[j].size : Int)) (by omega) (by omega), w64 (x := (j : Int) + 1) (by omega) (by omega)]
    show Ev _ (szR n (l[j].size + sumS (l.drop (j + 1))))
    by_cases g : (l[j].size : Int) ≤ n
    · rw [szR_cons _ g]
      exact ev_f (by omega) (ih (j + 1) (n - (l[j].size : Int)) (by omega) (by omega) (by omega))
    · rw [szR_neg _ g]
      exact ev_t (by omega) (ev_now _)
theorem szStringS_ev {l : List ByteArray} {n : Int} (hs : ∀ s ∈ l, s.size ≤ maxLen) (hl : l.length ≤ maxLen) (h0 : 0 ≤ n) (h1 : n ≤ 1048576) : Ev (fun k => laws_szStringS.f k l n) (szP l n) := by
  unfold maxLen at hl
  unfold laws_szStringS.f szP
  rw [w64 (by omega) (by omega)]
  by_cases c : (l.length : Int) ≤ n
  · rw [szR_cons _ c]
    have := szStringS_go hs (by omega) l.length 0 (n - (l.length : Int)) (by omega) (by omega) (by omega)
    rw [List.drop_zero] at this
    exact ev_f (by omega) this
  · rw [szR_neg _ c]
    exact ev_t (by omega) (ev_now _)
theorem szP_pos {l : List ByteArray} {n : Int} (h : (l.length : Int) + (sumS l : Int) ≤ n) : szP l n = n - ((l.length : Int) + (sumS l : Int)) := by
  unfold szP szR
  rw [if_pos (by omega)]
  omega
theorem szP_neg {l : List ByteArray} {n : Int} (h : ¬ (l.length : Int) + (sumS l : Int) ≤ n) : szP l n = -1 := by
  unfold szP szR
  rw [if_neg (by omega)]

/-! toStringS -/
theorem toStringS_ev (l : List ByteArray) (h : l.length ≤ 1000000000) : Ev (fun k => laws_toStringS.f k l) l := by
  unfold laws_toStringS.f
  refine ev_t (by omega) (ev_t (by omega) ?_)
  have := copy_gen (cv := fun s : ByteArray => s) (d := ByteArray.empty) (l0 := laws_toStringS.l0) (by
    intro k xs ys i a b c d
    simp only [laws_toStringS.l0]
    rw [if_pos b, if_pos a, if_pos (by omega), w64 (by omega) (by omega)]
    rfl) (by
    intro k xs ys i a
    simp only [laws_toStringS.l0]
    rw [if_neg a]) l (List.replicate ((l.length : Int) : Int).toNat (⟨#[]⟩ : ByteArray)) (by simp) h
  simpa using this

/-! eqStringS -/
theorem eqStringS_ev (l : List ByteArray) (h : l.length ≤ 1000000000) : Ev (fun k => laws_eqStringS.f k l l) true := by
  unfold laws_eqStringS.f
  refine ev_t rfl ?_
  exact scan_gen (g := fun i k => laws_eqStringS.l0 k l l i) (n := l.length) (fun i a b ih => by
    refine ev_succ ?_
    simp only [laws_eqStringS.l0]
    refine ev_t b (ev_t a (ev_t b (ev_t (by first | rfl | trivial) ?_)))
    rw [w64 (by omega) (by omega)]
    exact ih) (by
    refine ev_one fun k => ?_
    simp only [laws_eqStringS.l0]
    rw [if_neg (by omega)]) 0 (by omega) (by omega)

/-! markStringS -/
theorem markText_go : ∀ (n : Nat) (x : Int) (t : ByteArray), 0 ≤ x → x ≤ n → (t.size : Int) + x ≤ 10000000000000 → ∃ r, Ev (fun k => laws_markText.l0 k x t) r := by
  intro n
  induction n with
  | zero =>
    intro x t a b c
    refine ⟨(⟨#[109]⟩ : ByteArray) ++ t, ev_succ ?_⟩
    simp only [laws_markText.l0]
    exact ev_f (by omega) (ev_t (by omega) (ev_now _))
  | succ n ih =>
    intro x t a b c
    by_cases h : x > 0
    · have d : Int.tdiv x 10 = x / 10 := Int.tdiv_eq_ediv_of_nonneg a
      have sz : (strOfNums [(wrap64 (48 + (Int.tmod x 10))) % 256]).size = 1 := by rw [strOfNums_size]; rfl
      have sz2 : (strOfNums [(wrap64 (48 + (Int.tmod x 10))) % 256] ++ t).size = 1 + t.size := by rw [ByteArray.size_append, sz]
      obtain ⟨r, hr⟩ := ih (x / 10) (strOfNums [(wrap64 (48 + (Int.tmod x 10))) % 256] ++ t) (by omega) (by omega) (by omega)
      refine ⟨r, ev_succ ?_⟩
      simp only [laws_markText.l0, Option.bind_some]
      refine ev_t h (ev_t (by omega) ?_)
      rw [d, w64 (x := x / 10) (by omega) (by omega)]
      exact hr
    · refine ⟨(⟨#[109]⟩ : ByteArray) ++ t, ev_succ ?_⟩
      simp only [laws_markText.l0]
      exact ev_f h (ev_t (by omega) (ev_now _))
theorem markText_some (x : Int) (h0 : 0 ≤ x) (h : x ≤ 1000000000000) : ∃ r, Ev (fun k => laws_markText.f k x) r := by
  unfold laws_markText.f
  by_cases c : x ≤ 0
  · exact ⟨_, ev_t c (ev_now _)⟩
  · obtain ⟨r, hr⟩ := markText_go x.toNat x (⟨#[]⟩ : ByteArray) h0 (by omega) (by
      have : (⟨#[]⟩ : ByteArray).size = 0 := rfl
      omega)
    exact ⟨r, ev_f c hr⟩
open Classical in
noncomputable def mkT (x : Int) : ByteArray := if h : ∃ r, Ev (fun k => laws_markText.f k x) r then Classical.choose h else ByteArray.empty
theorem mkT_ev (x : Int) (h0 : 0 ≤ x) (h : x ≤ 1000000000000) : Ev (fun k => laws_markText.f k x) (mkT x) := by
  have g := markText_some x h0 h
  unfold mkT
  rw [dif_pos g]
  exact Classical.choose_spec g
theorem markS_one (l : List ByteArray) (h : l.length ≤ 2000000) (m0 : Int) (hm : 0 ≤ m0) (hm' : m0 ≤ 1000000000) : Ev (fun k => laws_markStringS.f k l m0) (m0 + 1 * l.length, upTo (fun j => mkT (m0 + 1 * j)) 0 l.length) := by
  refine mark_ev (mk := mkT) (s := 1) (l0 := laws_markStringS.l0) (by omega) (by omega) ?_ ?_ l m0 h hm hm'
  · intro R xs m i a b c d e ih
    refine ev_succ ?_
    simp only [laws_markStringS.l0]
    refine ev_t b (Ev.bind (mkT_ev m d (by omega)) (ev_t a ?_))
    rw [w64 (x := m + 1) (by omega) (by omega), w64 (by omega) (by omega)]
    exact ih
  · intro xs m i a
    refine ev_one fun k => ?_
    simp only [laws_markStringS.l0]
    rw [if_neg a]
theorem markStringS_big (l : List ByteArray) (h : l.length ≤ 1048576) : ∃ m' l', Ev (fun k => laws_markStringS.f k l 1) (m', l') ∧ True ∧ m' = 1 + (l.length : Int) :=
  ⟨_, _, markS_one l (by omega) 1 (by omega) (by omega), trivial, by omega⟩

/-! heldStringS -/
theorem markStringS_ev (l : List ByteArray) (h : l.length ≤ 2000000) (m0 : Int) (hm : 0 ≤ m0) (hm' : m0 ≤ 1000000000) : ∃ m' l', Ev (fun k => laws_markStringS.f k l m0) (m', l') ∧ Ev (fun k => laws_heldStringS.f k l' m0) m' ∧ m' = m0 + l.length := by
  refine ⟨_, _, markS_one l h m0 hm hm', held_ev (mk := mkT) (s := 1) (l0 := laws_heldStringS.l0) (by omega) (by omega) ByteArray.empty ?_ ?_ l.length m0 h hm hm', by omega⟩
  · intro R xs m i a b c d e g ih
    refine ev_succ ?_
    simp only [laws_heldStringS.l0]
    refine ev_t b (ev_t a (Ev.bind (mkT_ev m d (by omega)) (ev_t (by rw [rdOf_eq, g]) ?_)))
    rw [w64 (x := m + 1) (by omega) (by omega), w64 (by omega) (by omega)]
    exact ih
  · intro xs m i a
    refine ev_one fun k => ?_
    simp only [laws_heldStringS.l0]
    rw [if_neg a]

/-! phraseB -/
def okB (s : ByteArray) (i : Nat) : Bool := decide (49 ≤ bt s i ∧ bt s i ≤ 56)
def phraseB (s : ByteArray) : Bool := decide (1 ≤ (s.size : Int) ∧ (s.size : Int) ≤ 8) && (List.range s.size).all (okB s)
def tuneB (l : List ByteArray) : Bool := decide (1 ≤ (l.length : Int) ∧ (l.length : Int) ≤ 12) && l.all phraseB
theorem tuneB_of {l : List ByteArray} (h : tuneB l = true) : 1 ≤ l.length ∧ l.length ≤ 12 ∧ ∀ s ∈ l, 1 ≤ s.size ∧ s.size ≤ 8 ∧ ∀ i : Nat, i < s.size → 49 ≤ bt s i ∧ bt s i ≤ 56 := by
  unfold tuneB at h
  simp only [Bool.and_eq_true, decide_eq_true_eq, List.all_eq_true] at h
  refine ⟨by omega, by omega, fun s hs => ?_⟩
  have g := h.2 s hs
  unfold phraseB at g
  simp only [Bool.and_eq_true, decide_eq_true_eq, List.all_eq_true, List.mem_range] at g
  refine ⟨by omega, by omega, fun i hi => ?_⟩
  have := g.2 i hi
  unfold okB at this
  simpa using this
theorem range_drop (n i : Nat) (h : i < n) : (List.range n).drop i = i :: (List.range n).drop (i + 1) := by
  rw [List.drop_eq_getElem_cons (by simpa using h)]
  simp

/-! within -/
theorem within_eq (a b c : Int) : impl_within.f a b c = some (decide (b ≤ a ∧ a ≤ c)) := within_gen (fun _ _ _ => rfl) a b c

/-! isPhrase -/
theorem isPhrase_go (s : ByteArray) (hs : s.size ≤ 1000000000) : ∀ (d i : Nat), i + d = s.size → Ev (fun k => impl_isPhrase.l0 k s (s.size : Int) i) (((List.range s.size).drop i).all (okB s) && decide (1 ≤ (s.size : Int) ∧ (s.size : Int) ≤ 8)) := by
  intro d
  induction d with
  | zero =>
    intro i a
    refine ev_succ ?_
    simp only [impl_isPhrase.l0]
    rw [List.drop_of_length_le (by simp; omega)]
    exact ev_f (by omega) (ev_p (within_eq _ _ _) (ev_con (by simp)))
  | succ d ih =>
    intro i a
    rw [range_drop _ _ (by omega), List.all_cons]
    refine ev_succ ?_
    simp only [impl_isPhrase.l0]
    refine ev_t (by omega) (ev_t (by omega) (ev_t (by omega) ?_))
    by_cases c1 : bt s i < 49
    · have e : okB s i = false := decide_eq_false (by omega)
      rw [e]
      exact ev_t c1 (ev_now _)
    · refine ev_f c1 ?_
      by_cases c2 : bt s i > 56
      · have e : okB s i = false := decide_eq_false (by omega)
        rw [e]
        exact ev_t c2 (ev_now _)
      · have e : okB s i = true := decide_eq_true (by omega)
        rw [e, w64 (by omega) (by omega)]
        exact ev_f c2 (ih (i + 1) (by omega))
theorem isPhrase_ev (s : ByteArray) (hs : s.size ≤ 1000000000) : Ev (fun k => impl_isPhrase.f k s) (phraseB s) := by
  have := isPhrase_go s hs s.size 0 (by omega)
  rw [List.drop_zero, Bool.and_comm] at this
  unfold impl_isPhrase.f
  exact this

/-! IsTune -/
theorem anyBad_ev : ∀ (l : List ByteArray), (∀ s ∈ l, s.size ≤ 1000000000) → Ev (fun k => anyBad k l) (!(l.all phraseB))
  | [], _ => ev_con rfl
  | s :: l, h => by
    simp only [anyBad, List.all_cons]
    refine Ev.bind (isPhrase_ev s (h s List.mem_cons_self)) ?_
    cases c : phraseB s
    · exact ev_f (by simp) (ev_now _)
    · exact ev_t rfl (by simpa using anyBad_ev l (fun x hx => h x (List.mem_cons_of_mem _ hx)))
theorem isTune_ev (l : List ByteArray) (h : ∀ s ∈ l, s.size ≤ 1000000000) : Ev (fun k => impl_IsTune.f k l) (tuneB l) := by
  unfold impl_IsTune.f
  refine ev_p (within_eq _ _ _) ?_
  by_cases c : 1 ≤ (l.length : Int) ∧ (l.length : Int) ≤ 12
  · refine ev_t (decide_eq_true c) (Ev.bind (anyBad_ev l h) (ev_con ?_))
    unfold tuneB
    rw [decide_eq_true c]
    simp
  · refine ev_f (by simp only [decide_eq_true_eq]; exact c) (ev_con ?_)
    unfold tuneB
    rw [decide_eq_false c]
    rfl

/-! l1In -/
theorem l1In_eq (a b c : Int) : spec_l1In.f a b c = some (decide (b ≤ a ∧ a ≤ c)) := within_gen (fun _ _ _ => rfl) a b c

/-! beTune -/
theorem beTune_in {l : List ByteArray} {j : Nat} {s : ByteArray} {R : Bool} (hs : s.size ≤ 8) (hj : j < 1000000) (hR : Ev (fun k => spec_beTune.l0 k l (l.length : Int) (j + 1 : Nat)) R) : ∀ (d i : Nat), i + d = s.size → Ev (fun k => spec_beTune.l1 k s i l (l.length : Int) j) (((List.range s.size).drop i).all (okB s) && R) := by
  intro d
  induction d with
  | zero =>
    intro i a
    refine ev_succ ?_
    simp only [spec_beTune.l1]
    rw [List.drop_of_length_le (by simp; omega), w64 (x := (j : Int) + 1) (by omega) (by omega)]
    exact ev_f (by omega) (by simpa using hR)
  | succ d ih =>
    intro i a
    rw [range_drop _ _ (by omega), List.all_cons]
    refine ev_succ ?_
    simp only [spec_beTune.l1]
    refine ev_t (by omega) (ev_t (by omega) ?_)
    by_cases c1 : bt s i < 49
    · have e : okB s i = false := decide_eq_false (by omega)
      rw [e]
      exact ev_t c1 (ev_now _)
    · refine ev_f c1 ?_
      by_cases c2 : bt s i > 56
      · have e : okB s i = false := decide_eq_false (by omega)
        rw [e]
        exact ev_t c2 (ev_now _)
      · have e : okB s i = true := decide_eq_true (by omega)
        rw [e, w64 (x := (i : Int) + 1) (by omega) (by omega)]
        exact ev_f c2 (ih (i + 1) (by omega))
theorem beTune_ev (l : List ByteArray) : Ev (fun k => spec_beTune.f k l) (tuneB l) := by
  unfold spec_beTune.f
  refine ev_p (l1In_eq _ _ _) ?_
  by_cases c : 1 ≤ (l.length : Int) ∧ (l.length : Int) ≤ 12
  · refine ev_t (decide_eq_true c) ?_
    have e : tuneB l = l.all phraseB := by
      unfold tuneB
      rw [decide_eq_true c]
      rfl
    rw [e]
    have go : ∀ (d j : Nat), j + d = l.length → Ev (fun k => spec_beTune.l0 k l (l.length : Int) j) ((l.drop j).all phraseB) := by
      intro d
      induction d with
      | zero =>
        intro j a
        refine ev_one fun k => ?_
        simp only [spec_beTune.l0]
        rw [if_neg (by omega), List.drop_of_length_le (by omega)]
        rfl
      | succ d ih =>
        intro j a
        rw [List.drop_eq_getElem_cons (show j < l.length by omega), List.all_cons]
        refine ev_succ ?_
        simp only [spec_beTune.l0]
        refine ev_t (by omega) (ev_t (by omega) (ev_t (by omega) (ev_p (l1In_eq _ _ _) ?_)))
        rw [rdS_get l j (by omega)]
        by_cases g : 1 ≤ (l[j].size : Int) ∧ (l[j].size : Int) ≤ 8
        · refine ev_t (decide_eq_true g) ?_
          have e2 : phraseB l[j] = (List.range l[j].size).all (okB l[j]) := by
            unfold phraseB
            rw [decide_eq_true g]
            rfl
          rw [e2]
          have := beTune_in (l := l) (j := j) (s := l[j]) (by omega) (by omega) (ih (j + 1) (by omega)) l[j].size 0 (by omega)
          rw [List.drop_zero] at this
          exact this
        · refine ev_f (by simp only [decide_eq_true_eq]; exact g) ?_
          have e2 : phraseB l[j] = false := by
            unfold phraseB
            rw [decide_eq_false g]
            rfl
          rw [e2]
          exact ev_now _
    have := go l.length 0 (by omega)
    rw [List.drop_zero] at this
    exact this
  · refine ev_f (by simp only [decide_eq_true_eq]; exact c) ?_
    have e : tuneB l = false := by
      unfold tuneB
      rw [decide_eq_false c]
      rfl
    rw [e]
    exact ev_now _

/-! TurnTune -/
def TurnP (l : List ByteArray) (a1 : Int) : List ByteArray × Bool := if tuneB l = true ∧ 0 ≤ a1 ∧ a1 ≤ (l.length : Int) - 1 then (l.drop a1.toNat ++ l.take a1.toNat, true) else (([] : List ByteArray), false)
theorem l1OwnS_eq (l : List ByteArray) (h : l.length ≤ 1000) : spec_l1OwnS.f l = some l := by
  unfold spec_l1OwnS.f
  simp only [Option.bind_some, List.length_nil, List.nil_append]
  rw [if_pos (by omega)]
theorem TurnTune_spec (l : List ByteArray) (a1 : Int) : Ev (fun k => spec_TurnTune.f k l a1) (TurnP l a1) := by
  unfold spec_TurnTune.f
  refine Ev.bind (beTune_ev l) ?_
  by_cases h : tuneB l = true
  · have t := tuneB_of h
    refine ev_t h (ev_p (l1In_eq _ _ _) ?_)
    rw [w64 (by omega) (by omega)]
    by_cases c : 0 ≤ a1 ∧ a1 ≤ (l.length : Int) - 1
    · rw [show TurnP l a1 = _ from if_pos ⟨h, c⟩]
      refine ev_t (decide_eq_true c) (ev_t c.1 (ev_t (by omega) (ev_p (l1OwnS_eq _ (by rw [List.length_drop]; omega)) (ev_t (by rw [List.length_drop, List.length_take]; omega) (ev_now _)))))
    · rw [show TurnP l a1 = _ from if_neg (fun x => c x.2)]
      exact ev_f (by simp only [decide_eq_true_eq]; exact c) (ev_now _)
  · rw [show TurnP l a1 = _ from if_neg (fun x => h x.1)]
    exact ev_f h (ev_now _)
theorem TurnTune_impl (l : List ByteArray) (a1 : Int) (hs : ∀ s ∈ l, s.size ≤ 1000000000) : Ev (fun k => impl_TurnTune.f k l a1) (TurnP l a1) := by
  unfold impl_TurnTune.f
  refine Ev.bind (isTune_ev l hs) ?_
  by_cases h : tuneB l = true
  · have t := tuneB_of h
    refine ev_t h (ev_p (within_eq _ _ _) ?_)
    rw [w64 (by omega) (by omega)]
    by_cases c : 0 ≤ a1 ∧ a1 ≤ (l.length : Int) - 1
    · rw [show TurnP l a1 = _ from if_pos ⟨h, c⟩]
      refine ev_t (decide_eq_true c) (ev_t ⟨c.1, by omega, by omega, by omega⟩ (ev_now _))
    · rw [show TurnP l a1 = _ from if_neg (fun x => c x.2)]
      exact ev_f (by simp only [decide_eq_true_eq]; exact c) (ev_now _)
  · rw [show TurnP l a1 = _ from if_neg (fun x => h x.1)]
    exact ev_f h (ev_now _)

/-! the law -/
theorem TurnP_fact (l : List ByteArray) (a1 : Int) : (TurnP l a1).1.length ≤ 12 ∧ ((TurnP l a1).2 = true → l.length ≤ 12) := by
  unfold TurnP
  by_cases h : tuneB l = true ∧ 0 ≤ a1 ∧ a1 ≤ (l.length : Int) - 1
  · have t := tuneB_of h.1
    rw [if_pos h]
    refine ⟨by simp; omega, fun _ => by omega⟩
  · rw [if_neg h]
    exact ⟨by simp, fun z => by simp at z⟩

theorem law_of {R : List ByteArray × Bool} (l0 : List ByteArray) (a1 : Int) (hl : l0.length + sumS l0 ≤ 1048576) (hR : R.1.length ≤ 12) (hT : R.2 = true → l0.length ≤ 12) (hF : R.2 = false → True) (hs : Ev (fun k => spec_TurnTune.f k l0 a1) R) (hi : Ev (fun k => impl_TurnTune.f k l0 a1) R) : Ev (fun k => laws_FnExactTurnTune.f k l0 a1) true := by
  have hm : ∀ s ∈ l0, s.size ≤ maxLen := fun s h => by have := sumS_mem h; unfold maxLen; omega
  have ht := toStringS_ev l0 (by omega)
  have he := eqStringS_ev l0 (by omega)
  have hz := szStringS_ev (l := l0) (n := 1048576) hm (by unfold maxLen; omega) (by omega) (by omega)
  rw [szP_pos (by omega)] at hz
  have he2 := eqStringS_ev R.1 (by omega)
  obtain ⟨m1, x1, a1, a2, a3⟩ := markStringS_big l0 (by omega)
  obtain ⟨m', l', e1, e2, e3⟩ := markStringS_ev R.1 (by omega) 1 (by omega) (by omega)
  unfold laws_FnExactTurnTune.f
  refine Ev.bind hz (ev_f (by omega) (Ev.bind ht (Ev.bind hs (Ev.bind ht (Ev.bind hi (Ev.bind he2 (ev_t rfl (ev_succ ?_))))))))
  simp only [laws_FnExactTurnTune.j0]
  refine ev_f (by simp) (Ev.bind ht (Ev.bind he (ev_t rfl (Ev.bind a1 (ev_f (by omega) (Ev.bind he2 (ev_t rfl (ev_succ ?_))))))))
  simp only [laws_FnExactTurnTune.j1]
  refine ev_f (by simp) (Ev.bind e1 (Ev.bind e2 (ev_f (by omega) (ev_t rfl (Ev.bind ht (Ev.bind hi (Ev.bind he2 (ev_t rfl (ev_succ ?_)))))))))
  simp only [laws_FnExactTurnTune.j2]
  exact ev_f (by simp) (Ev.bind e2 (ev_f (by omega) (ev_t rfl (ev_now true))))
theorem law (l0 : List ByteArray) (a1 : Int) (hn0 : l0.length ≤ maxLen) (hw0 : ∀ s ∈ l0, s.size ≤ maxLen) (w1 : (Lit.int .i64 a1).wf = true) : ∃ k, laws_FnExactTurnTune.f k l0 a1 = some true := by
  refine Ev.rounds (g := fun k => laws_FnExactTurnTune.f k l0 a1) ?_
  by_cases hl : l0.length + sumS l0 ≤ 1048576
  · have hb : ∀ s ∈ l0, s.size ≤ 1000000000 := fun s h => by have := sumS_mem h; omega
    have hR := TurnP_fact l0 a1
    exact law_of l0 a1 hl hR.1 hR.2 (fun _ => trivial) (TurnTune_spec l0 a1) (TurnTune_impl l0 a1 hb)
  · have hz := szStringS_ev (l := l0) (n := 1048576) hw0 hn0 (by omega) (by omega)
    rw [szP_neg (by omega)] at hz
    unfold laws_FnExactTurnTune.f
    exact Ev.bind hz (ev_t (by omega) (ev_now true))

end Go.Proofs.Ytmhnbjoepgdiaaa.Pure.FnExactTurnTuneWay
