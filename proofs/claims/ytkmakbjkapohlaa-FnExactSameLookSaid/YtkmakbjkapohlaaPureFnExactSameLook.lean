/- FnExactSameLook: the law's printed function answers true at every input. -/
import Derived.Test.YtkmakbjkapohlaaGFnExactSameLookx4
import Derived.Test.YtkmakbjkapohlaaLib
import Derived.Test.YtkmakbjkapohlaaLibRows
import Derived.Test.YtkmakbjkapohlaaLibGcd
import Derived.Test.YtkmakbjkapohlaaLibTurn
set_option linter.unusedVariables false
set_option linter.unusedSimpArgs false
namespace Go.Proofs.Ytkmakbjkapohlaa.Pure.FnExactSameLookWay
open Go.RowKit Go.Proofs.Ytkmakbjkapohlaa.GFnExactSameLook Go.Proofs.YtkmakbjkapohlaaW.PrintWords Go.Proofs.YtkmakbjkapohlaaW.PrintLast Go.Proofs.YtkmakbjkapohlaaW.PrintMore Go.Proofs.Ytkmakbjkapohlaa.Lib

/-! within -/
theorem within_eq (a b c : Int) : impl_within.f a b c = some (decide (b ≤ a ∧ a ≤ c)) := within_gen (fun _ _ _ => rfl) a b c

/-! isDial -/
theorem isDial_eq (n : Int) : impl_isDial.f n = some (decide (2 ≤ n ∧ n ≤ 24)) := by
  unfold impl_isDial.f
  rw [within_eq, Option.bind_some]

/-! l1In -/
theorem l1In_eq (a b c : Int) : spec_l1In.f a b c = some (decide (b ≤ a ∧ a ≤ c)) := within_gen (fun _ _ _ => rfl) a b c

/-! diHours -/
theorem diHours_eq (n : Int) : spec_diHours.f n = some (decide (2 ≤ n ∧ n ≤ 24)) := by
  unfold spec_diHours.f
  rw [l1In_eq, Option.bind_some]

/-! gcd -/
theorem gcd_ev (a b : Int) (ha : a.natAbs ≤ 4611686018427387904) (hb : b.natAbs ≤ 4611686018427387904) : Ev (fun k => impl_gcd.f k a b) (Int.gcd a b : Int) := by
  unfold impl_gcd.f
  exact gcd_gen (l0 := impl_gcd.l0) (fun _ _ _ => by simp only [impl_gcd.l0]) b.natAbs a b ha hb (Nat.le_refl _)

/-! part -/
theorem floorDiv_eq {n d : Int} (hd : 1 ≤ d) (hd' : d ≤ 1000000000000000000) (hn : -1000000000000000000 ≤ n) (hn' : n ≤ 1000000000000000000) : ∃ q, impl_floorDiv.f n d = some (q, n % d) := by
  unfold impl_floorDiv.f
  have r0 := Int.emod_nonneg n (show d ≠ 0 by omega)
  have r1 := Int.emod_lt_of_pos n (show 0 < d by omega)
  rw [if_neg (by omega)]
  have e := Int.tmod_eq_emod (a := n) (b := d)
  have na : (d.natAbs : Int) = d := Int.natAbs_of_nonneg (by omega)
  by_cases c : Int.tmod n d < 0
  · rw [if_pos c]
    have e1 : wrap64 (Int.tmod n d + d) = n % d := by
      split at e
      · omega
      · rw [w64 (by omega) (by omega)]
        omega
    rw [e1]
    exact ⟨_, rfl⟩
  · rw [if_neg c]
    have e1 : Int.tmod n d = n % d := by
      split at e <;> omega
    rw [e1]
    exact ⟨_, rfl⟩
theorem part_ev {n d : Int} (hd : 1 ≤ d) (hd' : d ≤ 1000000000000000000) (hn : -1000000000000000000 ≤ n) (hn' : n ≤ 1000000000000000000) : Ev (fun k => impl_part.f k n d) (turnN n d, turnD n d) := by
  obtain ⟨q, hq⟩ := floorDiv_eq hd hd' hn hn'
  have r0 := Int.emod_nonneg n (show d ≠ 0 by omega)
  have r1 := Int.emod_lt_of_pos n (show 0 < d by omega)
  have g := gcd_pos (a := n % d) (b := d) (by omega)
  have b1 := low_bdN (n % d) d
  have b2 := low_bdD (n % d) d
  unfold impl_part.f turnN turnD
  refine ev_p hq (Ev.bind (gcd_ev (n % d) d (by omega) (by omega)) (ev_f (by omega) ?_))
  dsimp only
  rw [low_tdiv, low_tdiv', w64 (by omega) (by omega), w64 (by omega) (by omega)]
  exact ev_now _

/-! IsTurn -/
theorem isTurn_ev (n d : Int) : Ev (fun k => impl_IsTurn.f k n d) (turnB n d) := by
  unfold impl_IsTurn.f turnB
  refine ev_p (within_eq _ _ _) ?_
  by_cases h : 1 ≤ d ∧ d ≤ 1000000
  · refine ev_t (decide_eq_true h) (ev_p (within_eq _ _ _) ?_)
    rw [w64 (by omega) (by omega), decide_eq_true h]
    by_cases g : 0 ≤ n ∧ n ≤ d - 1
    · refine ev_t (decide_eq_true g) (Ev.bind (gcd_ev n d (by omega) (by omega)) (ev_con ?_))
      rw [decide_eq_true g]
      simp only [Bool.true_and]
      congr 1
      rw [Bool.eq_iff_iff, beq_iff_eq, decide_eq_true_iff]
      omega
    · rw [decide_eq_false g]
      exact ev_f (by simp) (ev_now _)
  · refine ev_f (by simp only [decide_eq_true_eq]; exact h) ?_
    rw [decide_eq_false h]
    exact ev_now _

/-! areTurns -/
def allT (l : List S84) : Bool := l.all fun t => turnB t.f0 t.f1
theorem rdT_get (l : List S84) (i : Nat) (h : i < l.length) : rd_T84 l i = l[i] := by
  unfold rd_T84
  rw [List.getD_eq_getElem?_getD, show ((i : Int)).toNat = i by omega, List.getElem?_eq_getElem h]
  rfl
theorem areTurns_ev (l : List S84) (h : l.length ≤ 1000000) : Ev (fun k => impl_areTurns.f k l) (allT l) := by
  have go : ∀ (d j : Nat), j + d = l.length → ∃ r : Int, Ev (fun k => impl_Turn_101.l0 k l (l.length : Int) j) r ∧ decide (r ≥ 0) = !((l.drop j).all fun t => turnB t.f0 t.f1) := by
    intro d
    induction d with
    | zero =>
      intro j a
      refine ⟨-1, ev_one fun k => ?_, ?_⟩
      · simp only [impl_Turn_101.l0]
        rw [if_neg (by omega)]
      · rw [List.drop_of_length_le (by omega)]
        rfl
    | succ d ih =>
      intro j a
      have hj : j < l.length := by omega
      have ls : Ev (fun k => impl_areTurns_1.f k (rd_T84 l j).f0 (rd_T84 l j).f1) (!(turnB l[j].f0 l[j].f1)) := by
        unfold impl_areTurns_1.f
        rw [rdT_get l j hj]
        exact Ev.bind (isTurn_ev _ _) (ev_now _)
      rw [List.drop_eq_getElem_cons hj]
      cases c : turnB l[j].f0 l[j].f1
      · rw [c] at ls
        refine ⟨j, ev_succ ?_, ?_⟩
        · simp only [impl_Turn_101.l0]
          exact ev_t (by omega) (ev_t (by omega) (ev_t (by omega) (Ev.bind ls (ev_t rfl (ev_now _)))))
        · rw [List.all_cons, c, decide_eq_true (by omega)]
          rfl
      · rw [c] at ls
        obtain ⟨r, hr, er⟩ := ih (j + 1) (by omega)
        refine ⟨r, ev_succ ?_, ?_⟩
        · simp only [impl_Turn_101.l0]
          rw [w64 (by omega) (by omega)]
          exact ev_t (by omega) (ev_t (by omega) (ev_t (by omega) (Ev.bind ls (ev_f (by simp) hr))))
        · rw [List.all_cons, c, er]
          rfl
  obtain ⟨r, hr, er⟩ := go l.length 0 (by omega)
  rw [List.drop_zero] at er
  have hr' : Ev (fun k => impl_Turn_101.f k l) r := hr
  unfold impl_areTurns.f impl_Turn_97.f
  have e2 : Ev (fun k => (impl_Turn_101.f k l).bind fun t => some (decide (t ≥ 0))) (!(allT l)) := by
    refine Ev.bind hr' ?_
    rw [er]
    exact ev_now _
  refine Ev.bind e2 (ev_con ?_)
  simp

/-! roots -/
def rootP (n d k : Int) : List S84 := upTo (fun i => (⟨turnN (n + i * d) (d * k), turnD (n + i * d) (d * k)⟩ : S84)) 0 k.toNat
theorem rootP_len (n d k : Int) : (rootP n d k).length = k.toNat := upTo_length _ _ _
theorem roots_ev {n d k : Int} (hn : 0 ≤ n) (hn' : n < d) (hd : d ≤ 1000000000000) (hk : 0 ≤ k) (hk' : k ≤ 1000) : Ev (fun z => impl_roots.f z n d k) (rootP n d k, allT (rootP n d k)) := by
  unfold impl_roots.f
  have e : (k - 1 + 1 - 0).toNat = k.toNat := by omega
  have dk := mul_bd (a := d) (b := k) (A := 1000000000000) (B := 1000) (by omega) hd hk hk'
  have go : ∀ (e j : Nat), (j : Int) + e = k → Ev (fun z => impl_roots.l0 z k (upTo (fun i => (⟨turnN (n + i * d) (d * k), turnD (n + i * d) (d * k)⟩ : S84)) 0 j) k j n d) (rootP n d k, allT (rootP n d k)) := by
    intro e
    induction e with
    | zero =>
      intro j a
      refine ev_succ ?_
      simp only [impl_roots.l0]
      refine ev_f (by omega) ?_
      have ej : upTo (fun i => (⟨turnN (n + i * d) (d * k), turnD (n + i * d) (d * k)⟩ : S84)) 0 j = rootP n d k := by
        unfold rootP
        rw [show k.toNat = j by omega]
      rw [ej]
      exact Ev.bind (areTurns_ev _ (by rw [rootP_len]; omega)) (ev_now _)
    | succ e ih =>
      intro j a
      have jd := mul_bd (a := (j : Int)) (b := d) (A := 1000) (B := 1000000000000) (by omega) (by omega) (by omega) hd
      have kp := mul_pos1 (a := d) (b := k) (by omega) (by omega)
      refine ev_succ ?_
      simp only [impl_roots.l0]
      refine ev_t (by omega) ?_
      rw [w64 (x := (j : Int) * d) (by omega) (by omega), w64 (x := n + (j : Int) * d) (by omega) (by omega), w64 (x := d * k) (by omega) (by omega), w64 (x := (j : Int) + 1) (by omega) (by omega)]
      refine Ev.bind (part_ev (n := n + (j : Int) * d) (d := d * k) (by omega) (by omega) (by omega) (by omega)) (ev_t (by rw [upTo_length]; omega) ?_)
      have := ih (j + 1) (by omega)
      rw [upTo_snoc, Int.zero_add] at this
      exact this
  have := go k.toNat 0 (by omega)
  exact this
theorem ifTurns_ev (l : List S84) (h : l.length ≤ 1000000) : Ev (fun k => impl_ifTurns.f k l (allT l)) (if allT l = true then (l, true) else ([], false)) := by
  unfold impl_ifTurns.f
  by_cases c : allT l = true
  · refine ev_t c (Ev.bind (areTurns_ev l h) (ev_t c ?_))
    rw [if_pos c]
    exact ev_now _
  · refine ev_f c ?_
    rw [if_neg c]
    exact ev_now _

/-! diCommon -/
theorem diCommon_ev (a b : Int) (ha : 0 ≤ a) (hb : 0 ≤ b) : Ev (fun k => spec_diCommon.f k a b) (Int.gcd a b : Int) := by
  unfold spec_diCommon.f
  exact common_gen (l0 := spec_diCommon.l0) (fun _ _ _ => by simp only [spec_diCommon.l0]) b.natAbs a b ha hb (Nat.le_refl _)

/-! diMake -/
def makeP (n d : Int) : Int × Int × Bool := if turnD n d > 1000000 then (0, 0, false) else (turnN n d, turnD n d, true)
theorem diMake_ev {n d : Int} (hd : 1 ≤ d) (hd' : d ≤ 1000000000000000000) (hn : -1000000000000000000 ≤ n) (hn' : n ≤ 1000000000000000000) : Ev (fun k => spec_diMake.f k n d) (makeP n d) := by
  have r0 := Int.emod_nonneg n (show d ≠ 0 by omega)
  have r1 := Int.emod_lt_of_pos n (show 0 < d by omega)
  have t0 := Int.lt_tmod_of_pos n (show 0 < d by omega)
  have t1 := Int.tmod_lt_of_pos n (show 0 < d by omega)
  have g := gcd_pos (a := n % d) (b := d) (by omega)
  have b1 := low_bdN (n % d) d
  have b2 := low_bdD (n % d) d
  have e : Int.tmod (wrap64 (Int.tmod n d + d)) d = n % d := by
    rw [w64 (by omega) (by omega), tmod_e (by omega), Int.add_emod_right]
    have := Int.dvd_self_sub_tmod (x := n) (m := d)
    exact (Int.emod_eq_emod_iff_emod_sub_eq_zero.2 (Int.emod_eq_zero_of_dvd this)).symm
  unfold spec_diMake.f makeP
  refine ev_f (by omega) ?_
  rw [e]
  refine Ev.bind (diCommon_ev (n % d) d (by omega) (by omega)) (ev_f (by omega) ?_)
  rw [low_tdiv, low_tdiv', w64 (x := lowN (n % d) d) (by omega) (by omega), w64 (x := lowD (n % d) d) (by omega) (by omega)]
  by_cases c : turnD n d > 1000000
  · refine ev_t c ?_
    rw [if_pos c]
    exact ev_now _
  · refine ev_f c ?_
    rw [if_neg c]
    exact ev_now _

/-! seParts -/
theorem seParts_ev {n : Int} (h : 1 ≤ n) (h' : n ≤ 1000) : Ev (fun k => spec_seParts.f k 0 n) (upTo (fun i => (⟨turnN i n, turnD i n⟩ : S84)) 0 n.toNat) := by
  have e : (n - 1 + 1 - 0).toNat = n.toNat := by omega
  rw [← e]
  unfold spec_seParts.f
  have go : ∀ (d j : Nat), (j : Int) + d = n → Ev (fun k => spec_seParts.l0 k 0 n (upTo (fun i => (⟨turnN i n, turnD i n⟩ : S84)) 0 j) j) (upTo (fun i => (⟨turnN i n, turnD i n⟩ : S84)) 0 (n - 1 + 1 - 0).toNat) := by
    intro d
    induction d with
    | zero =>
      intro j a
      refine ev_succ ?_
      simp only [spec_seParts.l0]
      rw [w64 (by omega) (by omega), show (n - 1 + 1 - 0).toNat = j by omega]
      exact ev_f (by omega) (ev_now _)
    | succ d ih =>
      intro j a
      have b := turn_bd (n := (j : Int)) (d := n) h
      have mk := diMake_ev (n := (j : Int)) (d := n) h (by omega) (by omega) (by omega)
      unfold makeP at mk
      rw [if_neg (by omega)] at mk
      refine ev_succ ?_
      simp only [spec_seParts.l0]
      rw [w64 (x := (0 : Int) + n) (by omega) (by omega), w64 (x := (j : Int) + 1) (by omega) (by omega)]
      refine ev_t (by omega) (Ev.bind mk (ev_t (by rw [upTo_length]; omega) ?_))
      have := ih (j + 1) (by omega)
      rw [upTo_snoc, Int.zero_add] at this
      exact this
  exact go n.toNat 0 (by omega)
theorem parts_root {n : Int} (h : 1 ≤ n) (h' : n ≤ 1000) : rootP 0 1 n = upTo (fun i => (⟨turnN i n, turnD i n⟩ : S84)) 0 n.toNat ∧ allT (rootP 0 1 n) = true := by
  have e : rootP 0 1 n = upTo (fun i => (⟨turnN i n, turnD i n⟩ : S84)) 0 n.toNat := by
    unfold rootP
    refine upTo_congr _ _ (fun j _ _ => ?_)
    show (⟨turnN (0 + j * 1) (1 * n), turnD (0 + j * 1) (1 * n)⟩ : S84) = _
    rw [Int.zero_add, Int.mul_one, Int.one_mul]
  refine ⟨e, ?_⟩
  rw [e]
  unfold allT
  rw [List.all_eq_true]
  intro t ht
  obtain ⟨j, _, _, rfl⟩ := upTo_mem _ _ ht
  have b := turn_bd (n := j) (d := n) h
  exact turn_B h (by omega)

/-! l1Most -/
theorem l1Most_eq (a b : Int) : spec_l1Most.f a b = some (max a b) := most_gen (fun _ _ => rfl) a b

/-! l1Abs -/
theorem l1Abs_eq {a : Int} (h : a.natAbs ≤ 4611686018427387904) : spec_l1Abs.f a = some (a.natAbs : Int) := by
  unfold spec_l1Abs.f
  rw [w64 (by omega) (by omega), l1Most_eq, Option.bind_some]
  congr 1
  omega

/-! SameLook -/
def lookP (a b : Int) : List S84 × Bool := if (2 ≤ a ∧ a ≤ 24) ∧ (2 ≤ b ∧ b ≤ 24) ∧ a ≠ b then (rootP 0 1 ((a - b).natAbs : Int), true) else ([], false)
theorem SameLook_spec (a b : Int) : Ev (fun k => spec_SameLook.f k a b) (lookP a b) := by
  have no : ∀ k, spec_SameLook.j0 (k + 1) a b true = some ([], false) := fun k => by
    simp [spec_SameLook.j0]
  unfold spec_SameLook.f lookP
  refine ev_p (diHours_eq a) ?_
  by_cases h : 2 ≤ a ∧ a ≤ 24
  · refine ev_t (decide_eq_true h) (ev_p (diHours_eq b) ?_)
    by_cases g : 2 ≤ b ∧ b ≤ 24
    · refine ev_t (decide_eq_true g) ?_
      by_cases c : a = b
      · rw [if_neg (fun z => z.2.2 c), beq_iff_eq.2 c]
        exact ev_one no
      · rw [if_pos ⟨h, g, c⟩, beq_eq_false_iff_ne.2 c]
        have pr := parts_root (n := ((a - b).natAbs : Int)) (by omega) (by omega)
        rw [pr.1]
        refine ev_succ ?_
        simp only [spec_SameLook.j0]
        rw [w64 (by omega) (by omega)]
        exact ev_f (by simp) (ev_p (l1Abs_eq (by omega)) (Ev.bind (seParts_ev (by omega) (by omega)) (ev_now _)))
    · rw [if_neg (fun z => g z.2.1)]
      exact ev_f (by simp only [decide_eq_true_eq]; exact g) (ev_one no)
  · rw [if_neg (fun z => h z.1)]
    exact ev_f (by simp only [decide_eq_true_eq]; exact h) (ev_one no)
theorem SameLook_impl (a b : Int) : Ev (fun k => impl_SameLook.f k a b) (lookP a b) := by
  have no : ∀ k, impl_SameLook.j0 (k + 1) a b true = some ([], false) := fun k => by
    simp [impl_SameLook.j0]
  unfold impl_SameLook.f lookP
  refine ev_p (isDial_eq a) ?_
  by_cases h : 2 ≤ a ∧ a ≤ 24
  · refine ev_t (decide_eq_true h) (ev_p (isDial_eq b) ?_)
    by_cases g : 2 ≤ b ∧ b ≤ 24
    · refine ev_t (decide_eq_true g) ?_
      by_cases c : a = b
      · rw [if_neg (fun z => z.2.2 c), beq_iff_eq.2 c]
        exact ev_one no
      · rw [if_pos ⟨h, g, c⟩, beq_eq_false_iff_ne.2 c]
        have pr := parts_root (n := ((a - b).natAbs : Int)) (by omega) (by omega)
        have rl := rootP_len 0 1 ((a - b).natAbs : Int)
        have m : mx (wrap64 (a - b)) (wrap64 (b - a)) = ((a - b).natAbs : Int) := by
          rw [w64 (by omega) (by omega), w64 (by omega) (by omega)]
          unfold mx
          split <;> omega
        have rt := roots_ev (n := 0) (d := 1) (k := ((a - b).natAbs : Int)) (by omega) (by omega) (by omega) (by omega) (by omega)
        have it := ifTurns_ev (rootP 0 1 ((a - b).natAbs : Int)) (by rw [rl]; omega)
        rw [if_pos pr.2] at it
        refine ev_succ ?_
        simp only [impl_SameLook.j0]
        rw [m]
        exact ev_f (by simp) (Ev.bind rt (Ev.bind it (ev_now _)))
    · rw [if_neg (fun z => g z.2.1)]
      exact ev_f (by simp only [decide_eq_true_eq]; exact g) (ev_one no)
  · rw [if_neg (fun z => h z.1)]
    exact ev_f (by simp only [decide_eq_true_eq]; exact h) (ev_one no)
theorem lookP_len (a b : Int) : (lookP a b).1.length ≤ 24 := by
  unfold lookP
  split
  · show (rootP 0 1 _).length ≤ 24
    rw [rootP_len]
    omega
  · simp

/-! eqTurnS -/
theorem eqTurnS_ev (l : List S84) (h : l.length ≤ 1000000000) : Ev (fun k => laws_eqTurnS.f k l l) true := by
  unfold laws_eqTurnS.f
  refine ev_t rfl ?_
  exact scan_gen (g := fun i k => laws_eqTurnS.l0 k l l i) (n := l.length) (fun i a b ih => by
    refine ev_succ ?_
    simp only [laws_eqTurnS.l0]
    refine ev_t b (ev_t a (ev_t b (ev_p (a := true) (by simp [laws_eqTurn.f]) (ev_t rfl ?_))))
    rw [w64 (by omega) (by omega)]
    exact ih) (by
    refine ev_one fun k => ?_
    simp only [laws_eqTurnS.l0]
    rw [if_neg (by omega)]) 0 (by omega) (by omega)

/-! markTurnS -/
theorem markTurnS_ev (l : List S84) (h : l.length ≤ 1000000) (m0 : Int) (hm : 0 ≤ m0) (hm' : m0 ≤ 1000000000) : ∃ m' l', Ev (fun k => laws_markTurnS.f k l m0) (m', l') ∧ Ev (fun k => laws_heldTurnS.f k l' m0) m' ∧ m' = m0 + 2 * l.length := by
  refine ⟨_, _, mark_gen (mk := fun m => (⟨m, m + 1⟩ : S84)) (s := 2) (l0 := laws_markTurnS.l0) (by omega) (by omega) ?_ ?_ l m0 (by omega) hm (by omega), held_gen (mk := fun m => (⟨m, m + 1⟩ : S84)) (s := 2) (l0 := laws_heldTurnS.l0) (by omega) (by omega) z84 ?_ ?_ l.length m0 (by omega) hm (by omega), by omega⟩
  · intro k xs m i a b c d e
    simp only [laws_markTurnS.l0]
    rw [if_pos b, if_pos a]
    simp only [Option.bind_some]
    rw [w64 (x := m + 1) (by omega) (by omega), w64 (x := m + 1 + 1) (by omega) (by omega), w64 (x := i + 1) (by omega) (by omega)]
    have e1 : rd_T84 (xs.set i.toNat ⟨m, (rd_T84 xs i).f1⟩) i = ⟨m, (rd_T84 xs i).f1⟩ := by
      unfold rd_T84
      rw [List.getD_eq_getElem?_getD, List.getElem?_set_self (by omega)]
      rfl
    rw [e1, List.set_set, show m + 1 + 1 = m + 2 by omega]
  · intro k xs m i a
    simp only [laws_markTurnS.l0]
    rw [if_neg a]
  · intro k xs m i a b c d e g
    have g' : rd_T84 xs i = ⟨m, m + 1⟩ := g
    simp only [laws_heldTurnS.l0]
    rw [if_pos b, if_pos a, g', if_pos rfl, w64 (x := m + 1) (by omega) (by omega), if_pos rfl, w64 (x := m + 1 + 1) (by omega) (by omega), w64 (x := i + 1) (by omega) (by omega), show m + 1 + 1 = m + 2 by omega]
  · intro k xs m i a
    simp only [laws_heldTurnS.l0]
    rw [if_neg a]

/-! the law -/
theorem law_of {R : List S84 × Bool} {a b : Int} (hl : R.1.length ≤ 24) (hs : Ev (fun k => spec_SameLook.f k a b) R) (hi : Ev (fun k => impl_SameLook.f k a b) R) : Ev (fun k => laws_FnExactSameLook.f k a b) true := by
  obtain ⟨m', l', e1, e2, e3⟩ := markTurnS_ev R.1 (by omega) 1 (by omega) (by omega)
  have e0 := eqTurnS_ev R.1 (by omega)
  unfold laws_FnExactSameLook.f
  refine Ev.bind hs (Ev.bind hi (Ev.bind e0 (ev_t rfl (ev_succ ?_))))
  simp only [laws_FnExactSameLook.j0]
  refine ev_f (by simp) (Ev.bind e1 (Ev.bind e2 (ev_f (by omega) (ev_t rfl (Ev.bind hi (Ev.bind e0 (ev_t rfl (ev_succ ?_))))))))
  simp only [laws_FnExactSameLook.j1]
  exact ev_f (by simp) (Ev.bind e2 (ev_f (by omega) (ev_t rfl (ev_now true))))
theorem law (a0 a1 : Int) (w0 : (Lit.int .i64 a0).wf = true) (w1 : (Lit.int .i64 a1).wf = true) : ∃ k, laws_FnExactSameLook.f k a0 a1 = some true :=
  Ev.rounds (law_of (lookP_len a0 a1) (SameLook_spec a0 a1) (SameLook_impl a0 a1))

end Go.Proofs.Ytkmakbjkapohlaa.Pure.FnExactSameLookWay
