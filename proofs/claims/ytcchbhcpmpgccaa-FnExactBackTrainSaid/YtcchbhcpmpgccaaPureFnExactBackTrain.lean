/- FnExactBackTrain: the law's printed function answers true at every input. -/
import Derived.Test.YtcchbhcpmpgccaaGFnExactBackTrainx3
import Derived.Test.YtcchbhcpmpgccaaLib
import Derived.Test.YtcchbhcpmpgccaaLibRows
import Derived.Test.YtcchbhcpmpgccaaLibGcd
set_option linter.unusedVariables false
set_option linter.unusedSimpArgs false
namespace Go.Proofs.Ytcchbhcpmpgccaa.Pure.FnExactBackTrainWay
open Go.RowKit Go.Proofs.Ytcchbhcpmpgccaa.GFnExactBackTrain Go.Proofs.YtcchbhcpmpgccaaW.PrintWords Go.Proofs.YtcchbhcpmpgccaaW.PrintLast Go.Proofs.YtcchbhcpmpgccaaW.PrintMore Go.Proofs.Ytcchbhcpmpgccaa.Lib

/-! szPairS -/
theorem szPairS_eq (l : List S54) (n : Int) (h : l.length ≤ maxLen) (h0 : 0 ≤ n) (h1 : n ≤ 1048576) : laws_szPairS.f l n = some (if (l.length : Int) ≤ n then n - (l.length : Int) else -1) := by
  unfold maxLen at h
  unfold laws_szPairS.f
  rw [w64 (by omega) (by omega)]
  by_cases c : (l.length : Int) ≤ n
  · rw [if_neg (by omega), if_pos c]
  · rw [if_pos (by omega), if_neg c]

/-! toPairS -/
def toP (l : List S54) : List S41 := l.map fun p => ⟨p.f0, p.f1⟩
theorem toP_length (l : List S54) : (toP l).length = l.length := by simp [toP]
theorem toPairS_ev (l : List S54) (h : l.length ≤ 1000000000) : Ev (fun k => laws_toPairS.f k l) (toP l) := by
  unfold laws_toPairS.f
  refine ev_t (by omega) (ev_t (by omega) ?_)
  refine copy_gen (cv := fun p : S54 => (⟨p.f0, p.f1⟩ : S41)) (d := z54) (l0 := laws_toPairS.l0) ?_ ?_ l _ (by simp) h
  · intro k xs ys i a b c d
    simp only [laws_toPairS.l0]
    rw [if_pos b, if_pos a]
    simp only [laws_toPair.f, Option.bind_some]
    rw [if_pos (by omega), w64 (by omega) (by omega)]
    rfl
  · intro k xs ys i a
    simp only [laws_toPairS.l0]
    rw [if_neg a]

/-! eqPairS -/
theorem eqPairS_ev (l : List S41) (h : l.length ≤ 1000000000) : Ev (fun k => laws_eqPairS.f k l l) true := by
  unfold laws_eqPairS.f
  refine ev_t rfl ?_
  exact scan_gen (g := fun i k => laws_eqPairS.l0 k l l i) (n := l.length) (fun i a b ih => by
    refine ev_succ ?_
    simp only [laws_eqPairS.l0]
    refine ev_t b (ev_t a (ev_t b (ev_p (a := true) (by simp [laws_eqPair.f]) (ev_t rfl ?_))))
    rw [w64 (by omega) (by omega)]
    exact ih) (by
    refine ev_one fun k => ?_
    simp only [laws_eqPairS.l0]
    rw [if_neg (by omega)]) 0 (by omega) (by omega)

/-! trainB -/
def pairC (p : S41) : Bool := decide ((6 ≤ p.f0 ∧ p.f0 ≤ 120) ∧ (6 ≤ p.f1 ∧ p.f1 ≤ 120))
def trainB (l : List S41) : Bool := decide (l.length ≤ 4) && !(l.any fun p => !pairC p)
theorem trainB_of {l : List S41} (h : trainB l = true) : l.length ≤ 4 ∧ ∀ p ∈ l, (6 ≤ p.f0 ∧ p.f0 ≤ 120) ∧ (6 ≤ p.f1 ∧ p.f1 ≤ 120) := by
  unfold trainB at h
  simp only [Bool.and_eq_true, decide_eq_true_eq, Bool.not_eq_true', List.any_eq_false] at h
  refine ⟨h.1, fun p hp => ?_⟩
  have := h.2 p hp
  simp [pairC] at this
  omega
theorem rdP_get (l : List S41) (i : Nat) (h : i < l.length) : rd_T41 l i = l[i] := by
  unfold rd_T41
  rw [List.getD_eq_getElem?_getD, show ((i : Int)).toNat = i by omega, List.getElem?_eq_getElem h]
  rfl
theorem rdP_mem (l : List S41) (i : Int) (h0 : 0 ≤ i) (h : i < l.length) : rd_T41 l i ∈ l := by
  have e : rd_T41 l i = rd_T41 l (i.toNat : Nat) := by rw [show ((i.toNat : Nat) : Int) = i by omega]
  rw [e, rdP_get l i.toNat (by omega)]
  exact List.getElem_mem _

/-! IsTrain -/
theorem isTrain_ev (l : List S41) : Ev (fun k => impl_IsTrain.f k l) (trainB l) := ev_con rfl

/-! l1In -/
theorem l1In_eq (a b c : Int) : spec_l1In.f a b c = some (decide (b ≤ a ∧ a ≤ c)) := within_gen (fun _ _ _ => rfl) a b c

/-! geWheel -/
theorem geWheel_eq (n : Int) : spec_geWheel.f n = some (decide (6 ≤ n ∧ n ≤ 120)) := by
  unfold spec_geWheel.f
  rw [l1In_eq, Option.bind_some]

/-! gePair -/
theorem gePair_eq (a b : Int) : spec_gePair.f a b = some (decide ((6 ≤ a ∧ a ≤ 120) ∧ (6 ≤ b ∧ b ≤ 120))) := by
  unfold spec_gePair.f
  rw [geWheel_eq, Option.bind_some]
  by_cases h : 6 ≤ a ∧ a ≤ 120
  · rw [if_pos (by simpa using h), geWheel_eq, Option.bind_some]
    congr 1
    rw [Bool.eq_iff_iff, decide_eq_true_iff, decide_eq_true_iff]
    omega
  · rw [if_neg (by simpa using h)]
    congr 1
    symm
    exact decide_eq_false (by omega)

/-! geTrain -/
theorem geTrain_ev (l : List S41) : Ev (fun k => spec_geTrain.f k l) (trainB l) := by
  unfold spec_geTrain.f
  by_cases h : (l.length : Int) > 4
  · have e : trainB l = false := by
      unfold trainB
      rw [decide_eq_false (by omega)]
      rfl
    rw [e]
    exact ev_t h (ev_now _)
  · refine ev_f h ?_
    have e : trainB l = !(l.any fun p => !pairC p) := by
      unfold trainB
      rw [decide_eq_true (by omega)]
      rfl
    rw [e]
    have pr : ∀ p : S41, spec_gePair.f p.f0 p.f1 = some (pairC p) := fun p => gePair_eq p.f0 p.f1
    have go : ∀ (d j : Nat), j + d = l.length → Ev (fun k => spec_geTrain.l0 k l (l.length : Int) j) (!((l.drop j).any fun p => !pairC p)) := by
      intro d
      induction d with
      | zero =>
        intro j a
        refine ev_one fun k => ?_
        simp only [spec_geTrain.l0]
        rw [if_neg (by omega), List.drop_of_length_le (by omega)]
        rfl
      | succ d ih =>
        intro j a
        refine ev_succ ?_
        simp only [spec_geTrain.l0]
        refine ev_t (by omega) (ev_t (by omega) (ev_t (by omega) (ev_p (pr _) ?_)))
        rw [List.drop_eq_getElem_cons (show j < l.length by omega), rdP_get l j (by omega)]
        cases c : pairC l[j]
        · refine ev_f (by simp) ?_
          rw [List.any_cons, c]
          exact ev_now _
        · refine ev_t rfl ?_
          rw [w64 (by omega) (by omega), List.any_cons, c]
          exact ih (j + 1) (by omega)
    have := go l.length 0 (by omega)
    rw [List.drop_zero] at this
    exact this

/-! BackTrain -/
def swP (p : S41) : S41 := ⟨p.f1, p.f0⟩
def BackP (l : List S41) : List S41 × Bool := if trainB l = true then (l.reverse.map swP, true) else (([] : List S41), false)
theorem back_go (l : List S41) (h : l.length ≤ 4) : ∀ (d : Nat) (acc : List S41), d ≤ l.length → acc.length + d ≤ 4 → Ev (fun k => spec_BackTrain.l0 k l acc ((d : Int) - 1)) (acc ++ ((l.take d).reverse.map swP), true) := by
  intro d
  induction d with
  | zero =>
    intro acc _ _
    refine ev_one fun k => ?_
    simp only [spec_BackTrain.l0]
    rw [if_neg (by omega)]
    simp
  | succ d ih =>
    intro acc a b
    refine ev_succ ?_
    simp only [spec_BackTrain.l0]
    rw [show (((d + 1 : Nat) : Int) - 1) = (d : Int) by omega]
    refine ev_t (by omega) (ev_t (by omega) (ev_t (by omega) (ev_t (by omega) ?_)))
    rw [w64 (by omega) (by omega), rdP_get l d (by omega)]
    have := ih (acc ++ [swP l[d]]) (by omega) (by simp; omega)
    rw [show acc ++ ((l.take (d + 1)).reverse.map swP) = (acc ++ [swP l[d]]) ++ ((l.take d).reverse.map swP) from by rw [List.take_succ_eq_append_getElem (show d < l.length by omega), List.reverse_append, List.map_append, List.append_assoc]; rfl]
    exact this
theorem BackTrain_spec (l : List S41) : Ev (fun k => spec_BackTrain.f k l) (BackP l) := by
  unfold spec_BackTrain.f
  refine Ev.bind (geTrain_ev l) ?_
  by_cases h : trainB l = true
  · have t := trainB_of h
    rw [show BackP l = _ from if_pos h]
    refine ev_t h ?_
    rw [w64 (by omega) (by omega)]
    have := back_go l t.1 l.length [] (by omega) (by simp; omega)
    rw [List.take_length] at this
    simpa using this
  · rw [show BackP l = _ from if_neg h]
    exact ev_f h (ev_now _)
theorem BackTrain_impl (l : List S41) : Ev (fun k => impl_BackTrain.f k l) (BackP l) := by
  unfold impl_BackTrain.f
  refine Ev.bind (isTrain_ev l) ?_
  by_cases h : trainB l = true
  · have t := trainB_of h
    rw [show BackP l = _ from if_pos h]
    exact ev_t h (ev_t t.1 (ev_now _))
  · rw [show BackP l = _ from if_neg h]
    exact ev_f h (ev_now _)
theorem BackP_len (l : List S41) : (BackP l).1.length ≤ 4 := by
  unfold BackP
  split
  · have := trainB_of ‹_›
    simp
    omega
  · simp

/-! markPairS -/
theorem markPairS_ev (l : List S41) (h : l.length ≤ 1048576) (m0 : Int) (hm : 0 ≤ m0) (hm' : m0 ≤ 1000000000) : ∃ m' l', Ev (fun k => laws_markPairS.f k l m0) (m', l') ∧ Ev (fun k => laws_heldPairS.f k l' m0) m' ∧ m' = m0 + 2 * l.length := by
  refine ⟨_, _, mark_gen (mk := fun m => (⟨m, m + 1⟩ : S41)) (s := 2) (l0 := laws_markPairS.l0) (by omega) (by omega) ?_ ?_ l m0 (by omega) hm (by omega), held_gen (mk := fun m => (⟨m, m + 1⟩ : S41)) (s := 2) (l0 := laws_heldPairS.l0) (by omega) (by omega) z41 ?_ ?_ l.length m0 (by omega) hm (by omega), by omega⟩
  · intro k xs m i a b c d e
    simp only [laws_markPairS.l0]
    rw [if_pos b, if_pos a]
    simp only [Option.bind_some]
    rw [w64 (x := m + 1) (by omega) (by omega), w64 (x := m + 1 + 1) (by omega) (by omega), w64 (x := i + 1) (by omega) (by omega)]
    have e1 : rd_T41 (xs.set i.toNat ⟨m, (rd_T41 xs i).f1⟩) i = ⟨m, (rd_T41 xs i).f1⟩ := by
      unfold rd_T41
      rw [List.getD_eq_getElem?_getD, List.getElem?_set_self (by omega)]
      rfl
    rw [e1, List.set_set, show m + 1 + 1 = m + 2 by omega]
  · intro k xs m i a
    simp only [laws_markPairS.l0]
    rw [if_neg a]
  · intro k xs m i a b c d e g
    have g' : rd_T41 xs i = ⟨m, m + 1⟩ := g
    simp only [laws_heldPairS.l0]
    rw [if_pos b, if_pos a, g', if_pos rfl, w64 (x := m + 1) (by omega) (by omega), if_pos rfl, w64 (x := m + 1 + 1) (by omega) (by omega), w64 (x := i + 1) (by omega) (by omega), show m + 1 + 1 = m + 2 by omega]
  · intro k xs m i a
    simp only [laws_heldPairS.l0]
    rw [if_neg a]

/-! the law -/
theorem law_of {R : List S41 × Bool} (l0 : List S54) (hl : l0.length ≤ 1048576) (hR : R.1.length ≤ 4) (hs : Ev (fun k => spec_BackTrain.f k (toP l0)) R) (hi : Ev (fun k => impl_BackTrain.f k (toP l0)) R) : Ev (fun k => laws_FnExactBackTrain.f k l0) true := by
  have ht := toPairS_ev l0 (by omega)
  have he := eqPairS_ev (toP l0) (by rw [toP_length]; omega)
  have he2 := eqPairS_ev R.1 (by omega)
  obtain ⟨m1, x1, a1, a2, a3⟩ := markPairS_ev (toP l0) (by rw [toP_length]; omega) 1 (by omega) (by omega)
  obtain ⟨m', l', e1, e2, e3⟩ := markPairS_ev R.1 (by omega) 1 (by omega) (by omega)
  unfold laws_FnExactBackTrain.f
  refine ev_p (szPairS_eq l0 1048576 (by unfold maxLen; omega) (by omega) (by omega)) ?_
  rw [if_pos (by omega)]
  refine ev_f (by omega) (Ev.bind ht (Ev.bind hs (Ev.bind ht (Ev.bind hi (Ev.bind he2 (ev_t rfl (ev_succ ?_)))))))
  simp only [laws_FnExactBackTrain.j0]
  refine ev_f (by simp) (Ev.bind ht (Ev.bind he (ev_t rfl (Ev.bind a1 (ev_f (by omega) (Ev.bind he2 (ev_t rfl (ev_succ ?_))))))))
  simp only [laws_FnExactBackTrain.j1]
  refine ev_f (by simp) (Ev.bind e1 (Ev.bind e2 (ev_f (by omega) (ev_t rfl (Ev.bind ht (Ev.bind hi (Ev.bind he2 (ev_t rfl (ev_succ ?_)))))))))
  simp only [laws_FnExactBackTrain.j2]
  exact ev_f (by simp) (Ev.bind e2 (ev_f (by omega) (ev_t rfl (ev_now true))))
theorem law (l0 : List S54) (hn0 : l0.length ≤ maxLen) (hw0 : ∀ x ∈ l0, (Lit.int .i64 x.f0).wf = true ∧ (Lit.int .i64 x.f1).wf = true) : ∃ k, laws_FnExactBackTrain.f k l0 = some true := by
  refine Ev.rounds (g := fun k => laws_FnExactBackTrain.f k l0) ?_
  by_cases hl : l0.length ≤ 1048576
  · exact law_of l0 hl (BackP_len _) (BackTrain_spec _) (BackTrain_impl _)
  · unfold laws_FnExactBackTrain.f
    refine ev_p (szPairS_eq l0 1048576 hn0 (by omega) (by omega)) ?_
    rw [if_neg (by omega)]
    exact ev_t (by omega) (ev_now true)

end Go.Proofs.Ytcchbhcpmpgccaa.Pure.FnExactBackTrainWay
