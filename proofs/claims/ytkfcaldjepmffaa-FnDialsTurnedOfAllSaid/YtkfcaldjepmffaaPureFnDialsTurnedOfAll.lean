/- FnDialsTurnedOfAll: the law's printed function answers true at every input. -/
import Derived.Test.YtkfcaldjepmffaaGFnDialsTurnedOfAllx16
import Derived.Test.YtkfcaldjepmffaaLib
import Derived.Test.YtkfcaldjepmffaaLibRows
import Derived.Test.YtkfcaldjepmffaaLibGcd
import Derived.Test.YtkfcaldjepmffaaLibTurn
set_option linter.unusedVariables false
set_option linter.unusedSimpArgs false
namespace Go.Proofs.Ytkfcaldjepmffaa.Pure.FnDialsTurnedOfAllWay
open Go.RowKit Go.Proofs.Ytkfcaldjepmffaa.GFnDialsTurnedOfAll Go.Proofs.YtkfcaldjepmffaaW.PrintWords Go.Proofs.YtkfcaldjepmffaaW.PrintLast Go.Proofs.YtkfcaldjepmffaaW.PrintMore Go.Proofs.Ytkfcaldjepmffaa.Lib

/-! gcd -/
theorem gcd_ev (a b : Int) (ha : a.natAbs ≤ 4611686018427387904) (hb : b.natAbs ≤ 4611686018427387904) : Ev (fun k => impl_gcd.f k a b) (Int.gcd a b : Int) := by
  unfold impl_gcd.f
  exact gcd_gen (l0 := impl_gcd.l0) (fun _ _ _ => by simp only [impl_gcd.l0]) b.natAbs a b ha hb (Nat.le_refl _)

/-! part -/
theorem floorDiv_eq {n d : Int} (hd : 1 ≤ d) (hd' : d ≤ 1000000000000000000) (hn : -1000000000000000000 ≤ n) (hn' : n ≤ 1000000000000000000) : ∃ q, impl_floorDiv.f n d = some (q, n % d) := by
  unfold impl_floorDiv.f
  have r0 := Int.emod_nonneg n (show d ≠ 0 by omega)
  have r1 := Int.emod_lt_of_pos n (show 0 < d by omega)
  rw [if_neg (by omega)]
  have e := Int.tmod_eq_emod (a := n) (b := d)
  have na : (d.natAbs : Int) = d := Int.natAbs_of_nonneg (by omega)
  by_cases c : Int.tmod n d < 0
  · rw [if_pos c]
    have e1 : wrap64 (Int.tmod n d + d) = n % d := by
      split at e
      · omega
      · rw [w64 (by omega) (by omega)]
        omega
    rw [e1]
    exact ⟨_, rfl⟩
  · rw [if_neg c]
    have e1 : Int.tmod n d = n % d := by
      split at e <;> omega
    rw [e1]
    exact ⟨_, rfl⟩
theorem part_ev {n d : Int} (hd : 1 ≤ d) (hd' : d ≤ 1000000000000000000) (hn : -1000000000000000000 ≤ n) (hn' : n ≤ 1000000000000000000) : Ev (fun k => impl_part.f k n d) (turnN n d, turnD n d) := by
  obtain ⟨q, hq⟩ := floorDiv_eq hd hd' hn hn'
  have r0 := Int.emod_nonneg n (show d ≠ 0 by omega)
  have r1 := Int.emod_lt_of_pos n (show 0 < d by omega)
  have g := gcd_pos (a := n % d) (b := d) (by omega)
  have b1 := low_bdN (n % d) d
  have b2 := low_bdD (n % d) d
  unfold impl_part.f turnN turnD
  refine ev_p hq (Ev.bind (gcd_ev (n % d) d (by omega) (by omega)) (ev_f (by omega) ?_))
  dsimp only
  rw [low_tdiv, low_tdiv', w64 (by omega) (by omega), w64 (by omega) (by omega)]
  exact ev_now _

/-! within -/
theorem within_eq (a b c : Int) : impl_within.f a b c = some (decide (b ≤ a ∧ a ≤ c)) := within_gen (fun _ _ _ => rfl) a b c

/-! IsTurn -/
theorem isTurn_ev (n d : Int) : Ev (fun k => impl_IsTurn.f k n d) (turnB n d) := by
  unfold impl_IsTurn.f turnB
  refine ev_p (within_eq _ _ _) ?_
  by_cases h : 1 ≤ d ∧ d ≤ 1000000
  · refine ev_t (decide_eq_true h) (ev_p (within_eq _ _ _) ?_)
    rw [w64 (by omega) (by omega), decide_eq_true h]
    by_cases g : 0 ≤ n ∧ n ≤ d - 1
    · refine ev_t (decide_eq_true g) (Ev.bind (gcd_ev n d (by omega) (by omega)) (ev_con ?_))
      rw [decide_eq_true g]
      simp only [Bool.true_and]
      congr 1
      rw [Bool.eq_iff_iff, beq_iff_eq, decide_eq_true_iff]
      omega
    · rw [decide_eq_false g]
      exact ev_f (by simp) (ev_now _)
  · refine ev_f (by simp only [decide_eq_true_eq]; exact h) ?_
    rw [decide_eq_false h]
    exact ev_now _

/-! areTurns -/
def allT (l : List S23) : Bool := l.all fun t => turnB t.f0 t.f1
theorem rdT_get (l : List S23) (i : Nat) (h : i < l.length) : rd_T23 l i = l[i] := by
  unfold rd_T23
  rw [List.getD_eq_getElem?_getD, show ((i : Int)).toNat = i by omega, List.getElem?_eq_getElem h]
  rfl
theorem areTurns_ev (l : List S23) (h : l.length ≤ 1000000) : Ev (fun k => impl_areTurns.f k l) (allT l) := by
  have go : ∀ (d j : Nat), j + d = l.length → ∃ r : Int, Ev (fun k => impl_Turn_89.l0 k l (l.length : Int) j) r ∧ decide (r ≥ 0) = !((l.drop j).all fun t => turnB t.f0 t.f1) := by
    intro d
    induction d with
    | zero =>
      intro j a
      refine ⟨-1, ev_one fun k => ?_, ?_⟩
      · simp only [impl_Turn_89.l0]
        rw [if_neg (by omega)]
      · rw [List.drop_of_length_le (by omega)]
        rfl
    | succ d ih =>
      intro j a
      have hj : j < l.length := by omega
      have ls : Ev (fun k => impl_areTurns_1.f k (rd_T23 l j).f0 (rd_T23 l j).f1) (!(turnB l[j].f0 l[j].f1)) := by
        unfold impl_areTurns_1.f
        rw [rdT_get l j hj]
        exact Ev.bind (isTurn_ev _ _) (ev_now _)
      rw [List.drop_eq_getElem_cons hj]
      cases c : turnB l[j].f0 l[j].f1
      · rw [c] at ls
        refine ⟨j, ev_succ ?_, ?_⟩
        · simp only [impl_Turn_89.l0]
          exact ev_t (by omega) (ev_t (by omega) (ev_t (by omega) (Ev.bind ls (ev_t rfl (ev_now _)))))
        · rw [List.all_cons, c, decide_eq_true (by omega)]
          rfl
      · rw [c] at ls
        obtain ⟨r, hr, er⟩ := ih (j + 1) (by omega)
        refine ⟨r, ev_succ ?_, ?_⟩
        · simp only [impl_Turn_89.l0]
          rw [w64 (by omega) (by omega)]
          exact ev_t (by omega) (ev_t (by omega) (ev_t (by omega) (Ev.bind ls (ev_f (by simp) hr))))
        · rw [List.all_cons, c, er]
          rfl
  obtain ⟨r, hr, er⟩ := go l.length 0 (by omega)
  rw [List.drop_zero] at er
  have hr' : Ev (fun k => impl_Turn_89.f k l) r := hr
  unfold impl_areTurns.f impl_Turn_77.f
  have e2 : Ev (fun k => (impl_Turn_89.f k l).bind fun t => some (decide (t ≥ 0))) (!(allT l)) := by
    refine Ev.bind hr' ?_
    rw [er]
    exact ev_now _
  refine Ev.bind e2 (ev_con ?_)
  simp

/-! roots -/
def rootP (n d k : Int) : List S23 := upTo (fun i => (⟨turnN (n + i * d) (d * k), turnD (n + i * d) (d * k)⟩ : S23)) 0 k.toNat
theorem rootP_len (n d k : Int) : (rootP n d k).length = k.toNat := upTo_length _ _ _
theorem roots_ev {n d k : Int} (hn : 0 ≤ n) (hn' : n < d) (hd : d ≤ 1000000000000) (hk : 0 ≤ k) (hk' : k ≤ 1000) : Ev (fun z => impl_roots.f z n d k) (rootP n d k, allT (rootP n d k)) := by
  unfold impl_roots.f
  have e : (k - 1 + 1 - 0).toNat = k.toNat := by omega
  have dk := mul_bd (a := d) (b := k) (A := 1000000000000) (B := 1000) (by omega) hd hk hk'
  have go : ∀ (e j : Nat), (j : Int) + e = k → Ev (fun z => impl_roots.l0 z k (upTo (fun i => (⟨turnN (n + i * d) (d * k), turnD (n + i * d) (d * k)⟩ : S23)) 0 j) k j n d) (rootP n d k, allT (rootP n d k)) := by
    intro e
    induction e with
    | zero =>
      intro j a
      refine ev_succ ?_
      simp only [impl_roots.l0]
      refine ev_f (by omega) ?_
      have ej : upTo (fun i => (⟨turnN (n + i * d) (d * k), turnD (n + i * d) (d * k)⟩ : S23)) 0 j = rootP n d k := by
        unfold rootP
        rw [show k.toNat = j by omega]
      rw [ej]
      exact Ev.bind (areTurns_ev _ (by rw [rootP_len]; omega)) (ev_now _)
    | succ e ih =>
      intro j a
      have jd := mul_bd (a := (j : Int)) (b := d) (A := 1000) (B := 1000000000000) (by omega) (by omega) (by omega) hd
      have kp := mul_pos1 (a := d) (b := k) (by omega) (by omega)
      refine ev_succ ?_
      simp only [impl_roots.l0]
      refine ev_t (by omega) ?_
      rw [w64 (x := (j : Int) * d) (by omega) (by omega), w64 (x := n + (j : Int) * d) (by omega) (by omega), w64 (x := d * k) (by omega) (by omega), w64 (x := (j : Int) + 1) (by omega) (by omega)]
      refine Ev.bind (part_ev (n := n + (j : Int) * d) (d := d * k) (by omega) (by omega) (by omega) (by omega)) (ev_t (by rw [upTo_length]; omega) ?_)
      have := ih (j + 1) (by omega)
      rw [upTo_snoc, Int.zero_add] at this
      exact this
  have := go k.toNat 0 (by omega)
  exact this
theorem ifTurns_ev (l : List S23) (h : l.length ≤ 1000000) : Ev (fun k => impl_ifTurns.f k l (allT l)) (if allT l = true then (l, true) else ([], false)) := by
  unfold impl_ifTurns.f
  by_cases c : allT l = true
  · refine ev_t c (Ev.bind (areTurns_ev l h) (ev_t c ?_))
    rw [if_pos c]
    exact ev_now _
  · refine ev_f c ?_
    rw [if_neg c]
    exact ev_now _

/-! diCommon -/
theorem diCommon_ev (a b : Int) (ha : 0 ≤ a) (hb : 0 ≤ b) : Ev (fun k => spec_diCommon.f k a b) (Int.gcd a b : Int) := by
  unfold spec_diCommon.f
  exact common_gen (l0 := spec_diCommon.l0) (fun _ _ _ => by simp only [spec_diCommon.l0]) b.natAbs a b ha hb (Nat.le_refl _)

/-! diMake -/
def makeP (n d : Int) : Int × Int × Bool := if turnD n d > 1000000 then (0, 0, false) else (turnN n d, turnD n d, true)
theorem diMake_ev {n d : Int} (hd : 1 ≤ d) (hd' : d ≤ 1000000000000000000) (hn : -1000000000000000000 ≤ n) (hn' : n ≤ 1000000000000000000) : Ev (fun k => spec_diMake.f k n d) (makeP n d) := by
  have r0 := Int.emod_nonneg n (show d ≠ 0 by omega)
  have r1 := Int.emod_lt_of_pos n (show 0 < d by omega)
  have t0 := Int.lt_tmod_of_pos n (show 0 < d by omega)
  have t1 := Int.tmod_lt_of_pos n (show 0 < d by omega)
  have g := gcd_pos (a := n % d) (b := d) (by omega)
  have b1 := low_bdN (n % d) d
  have b2 := low_bdD (n % d) d
  have e : Int.tmod (wrap64 (Int.tmod n d + d)) d = n % d := by
    rw [w64 (by omega) (by omega), tmod_e (by omega), Int.add_emod_right]
    have := Int.dvd_self_sub_tmod (x := n) (m := d)
    exact (Int.emod_eq_emod_iff_emod_sub_eq_zero.2 (Int.emod_eq_zero_of_dvd this)).symm
  unfold spec_diMake.f makeP
  refine ev_f (by omega) ?_
  rw [e]
  refine Ev.bind (diCommon_ev (n % d) d (by omega) (by omega)) (ev_f (by omega) ?_)
  rw [low_tdiv, low_tdiv', w64 (x := lowN (n % d) d) (by omega) (by omega), w64 (x := lowD (n % d) d) (by omega) (by omega)]
  by_cases c : turnD n d > 1000000
  · refine ev_t c ?_
    rw [if_pos c]
    exact ev_now _
  · refine ev_f c ?_
    rw [if_neg c]
    exact ev_now _

/-! frac -/
theorem frac_eq {a b c d : Int} (h : turnB a b = true) (g : turnB c d = true) (e : a * d = c * b) : a = c ∧ b = d := by
  have t := turnB_of h
  have u := turnB_of g
  have s1 := low_scale (x := a) (y := b) (g := d) (by omega)
  have s2 := low_scale (x := c) (y := d) (g := b) (by omega)
  rw [e, Int.mul_comm b d] at s1
  have p1 : lowN a b = a ∧ lowD a b = b := by
    unfold lowN lowD
    rw [t.2.2.2.2]
    simp
  have p2 : lowN c d = c ∧ lowD c d = d := by
    unfold lowN lowD
    rw [u.2.2.2.2]
    simp
  constructor
  · rw [← p1.1, ← p2.1, ← s1.1, ← s2.1]
  · rw [← p1.2, ← p2.2, ← s1.2, ← s2.2]
theorem cross_bd {a b c d : Int} (h : turnB a b = true) (g : turnB c d = true) : 0 ≤ a * d ∧ a * d ≤ 1000000000000 := by
  have t := turnB_of h
  have u := turnB_of g
  have := mul_bd (a := a) (b := d) (A := 1000000) (B := 1000000) (by omega) (by omega) (by omega) (by omega)
  omega

/-! eqv -/
/-- The same part of a turn, whole turns left out. -/
def eqv (x d y e : Int) : Prop := ∃ q : Int, x * e - y * d = q * (d * e)
theorem eqv_refl (x d : Int) : eqv x d x d := ⟨0, by grind⟩
theorem eqv_symm {x d y e : Int} (h : eqv x d y e) : eqv y e x d := by
  obtain ⟨q, h⟩ := h
  exact ⟨-q, by grind⟩
theorem eqv_trans {x d y e z f : Int} (he : 1 ≤ e) (h1 : eqv x d y e) (h2 : eqv y e z f) : eqv x d z f := by
  obtain ⟨q, h1⟩ := h1
  obtain ⟨r, h2⟩ := h2
  refine ⟨q + r, Int.eq_of_mul_eq_mul_left (show e ≠ 0 by omega) ?_⟩
  grind
theorem eqv_add {x d x' d' y e y' e' : Int} (h1 : eqv x d x' d') (h2 : eqv y e y' e') : eqv (x * e + y * d) (d * e) (x' * e' + y' * d') (d' * e') := by
  obtain ⟨q, h1⟩ := h1
  obtain ⟨r, h2⟩ := h2
  exact ⟨q + r, by grind⟩
theorem eqv_sub {x d x' d' y e y' e' : Int} (h1 : eqv x d x' d') (h2 : eqv y e y' e') : eqv (x * e - y * d) (d * e) (x' * e' - y' * d') (d' * e') := by
  obtain ⟨q, h1⟩ := h1
  obtain ⟨r, h2⟩ := h2
  exact ⟨q - r, by grind⟩
theorem eqv_mul {x d x' d' : Int} (k : Int) (h1 : eqv x d x' d') : eqv (x * k) d (x' * k) d' := by
  obtain ⟨q, h1⟩ := h1
  exact ⟨q * k, by grind⟩
theorem eqv_red {x d : Int} (h : 1 ≤ d) : eqv x d (turnN x d) (turnD x d) := by
  have g := gcd_pos (a := x % d) (b := d) (by omega)
  have e1 : turnN x d * (Int.gcd (x % d) d : Int) = x % d := low_num (x % d) d
  have e2 : turnD x d * (Int.gcd (x % d) d : Int) = d := low_den (x % d) d
  have e3 := Int.emod_add_mul_ediv x d
  refine ⟨x / d, Int.eq_of_mul_eq_mul_left (show (Int.gcd (x % d) d : Int) ≠ 0 by omega) ?_⟩
  generalize (Int.gcd (x % d) d : Int) = u at *
  generalize turnN x d = p at *
  generalize turnD x d = s at *
  generalize x / d = v at *
  generalize x % d = w at *
  grind
theorem turn_scale {x d e : Int} (he : 1 ≤ e) : turnN (x * e) (d * e) = turnN x d ∧ turnD (x * e) (d * e) = turnD x d := by
  have q := Int.mul_emod_mul_of_pos x d (show 0 < e by omega)
  have s := low_scale (x := x % d) (y := d) he
  unfold turnN turnD
  rw [Int.mul_comm x e, Int.mul_comm d e, q, Int.mul_comm e (x % d), Int.mul_comm e d]
  exact s
theorem eqv_eq {x d y e : Int} (hd : 1 ≤ d) (he : 1 ≤ e) (h : eqv x d y e) : turnN x d = turnN y e ∧ turnD x d = turnD y e := by
  obtain ⟨q, h⟩ := h
  have s1 := turn_scale (x := x) (d := d) he
  have s2 := turn_scale (x := y) (d := e) hd
  have m : (x * e) % (d * e) = (y * d) % (e * d) := by
    rw [show x * e = y * d + q * (d * e) by omega, Int.mul_comm e d]
    exact Int.add_mul_emod_self_right _ _ _
  constructor
  · rw [← s1.1, ← s2.1]
    unfold turnN
    rw [m, Int.mul_comm e d]
  · rw [← s1.2, ← s2.2]
    unfold turnD
    rw [m, Int.mul_comm e d]
theorem red_of {a b : Int} (h : turnB a b = true) : turnN a b = a ∧ turnD a b = b := by
  have t := turnB_of h
  unfold turnN turnD lowN lowD
  rw [Int.emod_eq_of_lt (by omega) (by omega), t.2.2.2.2]
  simp
theorem eqv_turn {x d a b : Int} (hd : 1 ≤ d) (h : turnB a b = true) (e : eqv x d a b) : turnN x d = a ∧ turnD x d = b := by
  have t := turnB_of h
  have r := red_of h
  have q := eqv_eq hd (by omega) e
  exact ⟨q.1.trans r.1, q.2.trans r.2⟩
theorem eqv_num {x d y e x' d' y' e' : Int} (h : eqv x d y e) (h1 : x' = x) (h2 : d' = d) (h3 : y' = y) (h4 : e' = e) : eqv x' d' y' e' := by
  rw [h1, h2, h3, h4]
  exact h
theorem turnB_dec {x d : Int} (h : 1 ≤ d) : turnB (turnN x d) (turnD x d) = decide (turnD x d ≤ 1000000) := by
  by_cases c : turnD x d ≤ 1000000
  · rw [turn_B h c, decide_eq_true c]
  · rw [decide_eq_false c]
    cases z : turnB (turnN x d) (turnD x d)
    · rfl
    · exact absurd (turnB_of z).2.1 c
theorem mir_mir {a b : Int} (h : turnB a b = true) : turnN (turnN (a * -1) b * -1) (turnD (a * -1) b) = a ∧ turnD (turnN (a * -1) b * -1) (turnD (a * -1) b) = b := by
  have t := turnB_of h
  have b1 := turn_bd (n := a * -1) (d := b) (by omega)
  have e := eqv_mul (-1) (eqv_symm (eqv_red (x := a * -1) (d := b) (by omega)))
  exact eqv_turn (by omega) h (eqv_num e rfl rfl (by omega) rfl)

/-! angles -/
def anglesP (h n d : Int) : List S23 × Bool := if allT (rootP n d (h - 1)) = true then (rootP n d (h - 1), true) else ([], false)
theorem mem_root {n d k : Int} (j : Int) (h0 : 0 ≤ j) (h1 : j < k) : (⟨turnN (n + j * d) (d * k), turnD (n + j * d) (d * k)⟩ : S23) ∈ rootP n d k := by
  have l := rootP_len n d k
  have g := upTo_get (fun i => (⟨turnN (n + i * d) (d * k), turnD (n + i * d) (d * k)⟩ : S23)) z23 k.toNat 0 j.toNat (by omega)
  rw [show (0 : Int) + (j.toNat : Int) = j by omega] at g
  rw [← g]
  show (rootP n d k).getD j.toNat z23 ∈ rootP n d k
  rw [List.getD_eq_getElem?_getD, List.getElem?_eq_getElem (by omega)]
  exact List.getElem_mem _
theorem root_at {n d k : Int} (j : Int) (h0 : 0 ≤ j) (h1 : j < k) : rd_T23 (rootP n d k) j = ⟨turnN (n + j * d) (d * k), turnD (n + j * d) (d * k)⟩ := by
  unfold rd_T23
  have g := upTo_get (fun i => (⟨turnN (n + i * d) (d * k), turnD (n + i * d) (d * k)⟩ : S23)) z23 k.toNat 0 j.toNat (by omega)
  rw [show (0 : Int) + (j.toNat : Int) = j by omega] at g
  exact g
theorem allT_mem {l : List S23} (h : allT l = true) {x : S23} (hx : x ∈ l) : turnB x.f0 x.f1 = true := by
  unfold allT at h
  exact List.all_eq_true.1 h x hx
theorem anglesI_ev {h n d : Int} (z1 : 2 ≤ h) (z2 : h ≤ 24) (h1 : 0 ≤ n) (h2 : n < d) (h3 : d ≤ 1000000000000) : Ev (fun z => (impl_roots.f z n d (wrap64 (h - 1))).bind fun bt => (impl_ifTurns.f z bt.1 bt.2).bind fun t => some (t.1, t.2)) (anglesP h n d) := by
  rw [w64 (by omega) (by omega)]
  refine Ev.bind (roots_ev h1 h2 h3 (by omega) (by omega)) ?_
  dsimp only
  exact Ev.bind (ifTurns_ev _ (by rw [rootP_len]; omega)) (ev_now _)
theorem seAngle_ev {h n d : Int} (z1 : 2 ≤ h) (z2 : h ≤ 24) (h1 : 0 ≤ n) (h2 : n < d) (h3 : d ≤ 1000000000000) : Ev (fun k => spec_seAngle.f k h n d) (anglesP h n d) := by
  have dk := mul_bd (a := d) (b := h - 1) (A := 1000000000000) (B := 23) (by omega) h3 (by omega) (by omega)
  have dp := mul_pos1 (a := d) (b := h - 1) (by omega) (by omega)
  have go : ∀ (e j : Nat), (j : Int) + e = h - 1 → allT (upTo (fun i => (⟨turnN (n + i * d) (d * (h - 1)), turnD (n + i * d) (d * (h - 1))⟩ : S23)) 0 j) = true →
      Ev (fun k => spec_seAngle.l0 k h n d (upTo (fun i => (⟨turnN (n + i * d) (d * (h - 1)), turnD (n + i * d) (d * (h - 1))⟩ : S23)) 0 j) j) (anglesP h n d) := by
    intro e
    induction e with
    | zero =>
      intro j a al
      have ej : upTo (fun i => (⟨turnN (n + i * d) (d * (h - 1)), turnD (n + i * d) (d * (h - 1))⟩ : S23)) 0 j = rootP n d (h - 1) := by
        unfold rootP
        rw [show (h - 1).toNat = j by omega]
      rw [ej] at al
      refine ev_succ ?_
      simp only [spec_seAngle.l0]
      rw [w64 (x := h - 1) (by omega) (by omega), ej]
      unfold anglesP
      rw [if_pos al]
      exact ev_f (by omega) (ev_now _)
    | succ e ih =>
      intro j a al
      have jd := mul_bd (a := (j : Int)) (b := d) (A := 1000) (B := 1000000000000) (by omega) (by omega) (by omega) h3
      have mk := diMake_ev (n := n + (j : Int) * d) (d := d * (h - 1)) (by omega) (by omega) (by omega) (by omega)
      unfold makeP at mk
      refine ev_succ ?_
      simp only [spec_seAngle.l0]
      rw [w64 (x := h - 1) (by omega) (by omega), w64 (x := (j : Int) * d) (by omega) (by omega), w64 (x := n + (j : Int) * d) (by omega) (by omega), w64 (x := d * (h - 1)) (by omega) (by omega), w64 (x := (j : Int) + 1) (by omega) (by omega)]
      refine ev_t (by omega) (Ev.bind mk ?_)
      by_cases c : turnD (n + (j : Int) * d) (d * (h - 1)) > 1000000
      · rw [if_pos c]
        have no : ¬ allT (rootP n d (h - 1)) = true := fun z => by
          have m := allT_mem z (mem_root (n := n) (d := d) (k := h - 1) (j : Int) (by omega) (by omega))
          have := (turnB_of m).2.1
          dsimp only at this
          omega
        unfold anglesP
        rw [if_neg no]
        exact ev_f (by simp) (ev_now _)
      · rw [if_neg c]
        refine ev_t rfl (ev_t (by rw [upTo_length]; omega) ?_)
        have := ih (j + 1) (by omega)
        rw [upTo_snoc, Int.zero_add] at this
        refine this ?_
        unfold allT at al ⊢
        rw [List.all_append, al, List.all_cons, List.all_nil, turn_B (by omega) (by omega)]
        rfl
  exact go (h - 1).toNat 0 (by omega) rfl
theorem low_rise {x y m : Int} (hm : 1 ≤ m) (h : x < y) : lowN x m * lowD y m < lowN y m * lowD x m := by
  have g1 := gcd_pos (a := x) (b := m) (by omega)
  have g2 := gcd_pos (a := y) (b := m) (by omega)
  have e1 := low_num x m
  have e2 := low_den x m
  have e3 := low_num y m
  have e4 := low_den y m
  have p := mul_pos1 (a := (Int.gcd x m : Int)) (b := (Int.gcd y m : Int)) g1 g2
  have k : x * m < y * m := Int.mul_lt_mul_of_pos_right h (by omega)
  have q1 : lowN x m * lowD y m * ((Int.gcd x m : Int) * (Int.gcd y m : Int)) = x * m := by
    rw [show lowN x m * lowD y m * ((Int.gcd x m : Int) * (Int.gcd y m : Int)) = (lowN x m * (Int.gcd x m : Int)) * (lowD y m * (Int.gcd y m : Int)) by grind, e1, e4]
  have q2 : lowN y m * lowD x m * ((Int.gcd x m : Int) * (Int.gcd y m : Int)) = y * m := by
    rw [show lowN y m * lowD x m * ((Int.gcd x m : Int) * (Int.gcd y m : Int)) = (lowN y m * (Int.gcd y m : Int)) * (lowD x m * (Int.gcd x m : Int)) by grind, e3, e2]
  rw [← q1, ← q2] at k
  exact Int.lt_of_mul_lt_mul_right k (by omega)

/-! minus -/
theorem den_bd {a b c d : Int} (h : turnB a b = true) (g : turnB c d = true) : 1 ≤ b * d ∧ b * d ≤ 1000000000000 := by
  have t := turnB_of h
  have u := turnB_of g
  have := mul_bd (a := b) (b := d) (A := 1000000) (B := 1000000) (by omega) (by omega) (by omega) (by omega)
  have := mul_pos1 (a := b) (b := d) (by omega) (by omega)
  omega
theorem minus_ev {a b c d : Int} (h : turnB a b = true) (g : turnB c d = true) : Ev (fun k => impl_Turn_minus.f k a b c d) (turnN (a * d - c * b) (b * d), turnD (a * d - c * b) (b * d)) := by
  have x := cross_bd h g
  have y := cross_bd g h
  have z := den_bd h g
  unfold impl_Turn_minus.f
  rw [w64 (x := a * d) (by omega) (by omega), w64 (x := c * b) (by omega) (by omega), w64 (x := a * d - c * b) (by omega) (by omega), w64 (x := b * d) (by omega) (by omega)]
  exact Ev.bind (part_ev (by omega) (by omega) (by omega) (by omega)) (ev_now _)
theorem plus_ev {a b c d : Int} (h : turnB a b = true) (g : turnB c d = true) : Ev (fun k => impl_Turn_plus.f k a b c d) (turnN (a * d + c * b) (b * d), turnD (a * d + c * b) (b * d)) := by
  have x := cross_bd h g
  have y := cross_bd g h
  have z := den_bd h g
  unfold impl_Turn_plus.f
  rw [w64 (x := a * d) (by omega) (by omega), w64 (x := c * b) (by omega) (by omega), w64 (x := a * d + c * b) (by omega) (by omega), w64 (x := b * d) (by omega) (by omega)]
  exact Ev.bind (part_ev (by omega) (by omega) (by omega) (by omega)) (ev_now _)
theorem diAdd1_ev {a b c d : Int} (h : turnB a b = true) (g : turnB c d = true) : Ev (fun k => spec_diAdd.f k a b c d 1) (makeP (a * d + c * b) (b * d)) := by
  have t := turnB_of h
  have u := turnB_of g
  have x := cross_bd h g
  have y := cross_bd g h
  have z := den_bd h g
  unfold spec_diAdd.f
  rw [Int.one_mul, w64 (x := a * d) (by omega) (by omega), w64 (x := c) (by omega) (by omega), w64 (x := c * b) (by omega) (by omega), w64 (x := a * d + c * b) (by omega) (by omega), w64 (x := b * d) (by omega) (by omega)]
  exact Ev.bind (diMake_ev (by omega) (by omega) (by omega) (by omega)) (ev_now _)
theorem diAddM_ev {a b c d : Int} (h : turnB a b = true) (g : turnB c d = true) : Ev (fun k => spec_diAdd.f k a b c d (-1)) (makeP (a * d - c * b) (b * d)) := by
  have t := turnB_of h
  have u := turnB_of g
  have x := cross_bd h g
  have y := cross_bd g h
  have z := den_bd h g
  have e : -1 * c * b = -(c * b) := by rw [Int.neg_mul, Int.one_mul, Int.neg_mul]
  unfold spec_diAdd.f
  rw [w64 (x := a * d) (by omega) (by omega), w64 (x := -1 * c) (by omega) (by omega), e, w64 (x := -(c * b)) (by omega) (by omega), w64 (x := a * d + -(c * b)) (by omega) (by omega), w64 (x := b * d) (by omega) (by omega), show a * d + -(c * b) = a * d - c * b by omega]
  exact Ev.bind (diMake_ev (by omega) (by omega) (by omega) (by omega)) (ev_now _)

/-! l1In -/
theorem l1In_eq (a b c : Int) : spec_l1In.f a b c = some (decide (b ≤ a ∧ a ≤ c)) := within_gen (fun _ _ _ => rfl) a b c

/-! diGood -/
theorem diGood_ev (n d : Int) : Ev (fun k => spec_diGood.f k n d) (turnB n d) := by
  unfold spec_diGood.f turnB
  refine ev_p (l1In_eq _ _ _) ?_
  by_cases h : 1 ≤ d ∧ d ≤ 1000000
  · refine ev_t (decide_eq_true h) (ev_p (l1In_eq _ _ _) ?_)
    rw [w64 (by omega) (by omega), decide_eq_true h]
    by_cases g : 0 ≤ n ∧ n ≤ d - 1
    · refine ev_t (decide_eq_true g) (Ev.bind (diCommon_ev n d (by omega) (by omega)) (ev_con ?_))
      rw [decide_eq_true g]
      simp only [Bool.true_and]
      congr 1
      rw [Bool.eq_iff_iff, beq_iff_eq, decide_eq_true_iff]
      omega
    · rw [decide_eq_false g]
      exact ev_f (by simp) (ev_now _)
  · refine ev_f (by simp only [decide_eq_true_eq]; exact h) ?_
    rw [decide_eq_false h]
    exact ev_now _

/-! isDial -/
theorem isDial_eq (n : Int) : impl_isDial.f n = some (decide (2 ≤ n ∧ n ≤ 24)) := by
  unfold impl_isDial.f
  rw [within_eq, Option.bind_some]

/-! diHours -/
theorem diHours_eq (n : Int) : spec_diHours.f n = some (decide (2 ≤ n ∧ n ≤ 24)) := by
  unfold spec_diHours.f
  rw [l1In_eq, Option.bind_some]

/-! seenB -/
def seenB (a b c d : Int) : Bool := turnB a b && turnB c d
def askB (h a b c d : Int) : Bool := decide (2 ≤ h ∧ h ≤ 24) && seenB a b c d
theorem seenB_of {a b c d : Int} (h : seenB a b c d = true) : turnB a b = true ∧ turnB c d = true := by
  unfold seenB at h
  simpa using h
theorem askB_of {h a b c d : Int} (e : askB h a b c d = true) : 2 ≤ h ∧ h ≤ 24 ∧ turnB a b = true ∧ turnB c d = true := by
  unfold askB at e
  simp only [Bool.and_eq_true, decide_eq_true_eq] at e
  have := seenB_of e.2
  exact ⟨e.1.1, e.1.2, this.1, this.2⟩
theorem IsSeen_ev (a b c d : Int) : Ev (fun k => impl_IsSeen.f k a b c d) (seenB a b c d) := by
  have e := areTurns_ev [(⟨a, b⟩ : S23), (⟨c, d⟩ : S23)] (by simp)
  have q : allT [(⟨a, b⟩ : S23), (⟨c, d⟩ : S23)] = seenB a b c d := by simp [allT, seenB]
  rw [q] at e
  unfold impl_IsSeen.f
  exact Ev.bind e (ev_now _)
theorem isSeenOf_ev (h a b c d : Int) : Ev (fun k => impl_isSeenOf.f k h a b c d) (askB h a b c d) := by
  unfold impl_isSeenOf.f askB
  refine ev_p (isDial_eq h) ?_
  by_cases z : 2 ≤ h ∧ h ≤ 24
  · refine ev_t (decide_eq_true z) (Ev.bind (IsSeen_ev a b c d) (ev_con ?_))
    rw [decide_eq_true z, Bool.true_and]
  · refine ev_f (by simp only [decide_eq_true_eq]; exact z) ?_
    rw [decide_eq_false z]
    exact ev_now _
theorem seGood_ev (a b c d : Int) : Ev (fun k => spec_seGood.f k a b c d) (seenB a b c d) := by
  unfold spec_seGood.f seenB
  refine Ev.bind (diGood_ev a b) ?_
  cases turnB a b
  · exact ev_f (by simp) (ev_now _)
  · exact ev_t rfl (Ev.bind (diGood_ev c d) (ev_now _))
theorem seAsked_ev (h a b c d : Int) : Ev (fun k => spec_seAsked.f k h a b c d) (askB h a b c d) := by
  unfold spec_seAsked.f askB
  refine ev_p (diHours_eq h) ?_
  by_cases z : 2 ≤ h ∧ h ≤ 24
  · refine ev_t (decide_eq_true z) (Ev.bind (seGood_ev a b c d) (ev_con ?_))
    rw [decide_eq_true z, Bool.true_and]
  · refine ev_f (by simp only [decide_eq_true_eq]; exact z) ?_
    rw [decide_eq_false z]
    exact ev_now _
/-! timesTurned -/
def apN (a b c d : Int) : Int := turnN (c * b - a * d) (d * b)
def apD (a b c d : Int) : Int := turnD (c * b - a * d) (d * b)
def ttP (h a b c d : Int) : List S23 × Bool := if askB h a b c d = true then anglesP h (apN a b c d) (apD a b c d) else ([], false)
theorem ap_bd {a b c d : Int} (h : turnB a b = true) (g : turnB c d = true) : 0 ≤ apN a b c d ∧ apN a b c d < apD a b c d ∧ apD a b c d ≤ 1000000000000 := by
  have z := den_bd g h
  have t := turn_bd (n := c * b - a * d) (d := d * b) (by omega)
  unfold apN apD
  omega
theorem TimesTurned_impl (h a b c d : Int) : Ev (fun k => impl_TimesTurned.f k h a b c d) (ttP h a b c d) := by
  unfold impl_TimesTurned.f ttP
  refine Ev.bind (isSeenOf_ev h a b c d) ?_
  by_cases z : askB h a b c d = true
  · have t := askB_of z
    have q := ap_bd t.2.2.1 t.2.2.2
    rw [if_pos z]
    exact ev_t z (Ev.bind (minus_ev t.2.2.2 t.2.2.1) (anglesI_ev t.1 t.2.1 q.1 q.2.1 q.2.2))
  · rw [if_neg z]
    exact ev_f z (ev_now _)
theorem seApart_ev {a b c d : Int} (h : turnB a b = true) (g : turnB c d = true) : Ev (fun k => spec_seApart.f k a b c d) (apN a b c d, apD a b c d) := by
  have t := turnB_of h
  have u := turnB_of g
  have x := cross_bd h g
  have y := cross_bd g h
  have z := den_bd g h
  have lt : a * d < d * b := by
    rw [Int.mul_comm d b]
    exact Int.mul_lt_mul_of_pos_right t.2.2.2.1 (by omega)
  have r0 := Int.emod_nonneg (c * b - a * d) (show d * b ≠ 0 by omega)
  have r1 := Int.emod_lt_of_pos (c * b - a * d) (show 0 < d * b by omega)
  have gp := gcd_pos (a := (c * b - a * d) % (d * b)) (b := d * b) (by omega)
  have b1 := low_bdN ((c * b - a * d) % (d * b)) (d * b)
  have b2 := low_bdD ((c * b - a * d) % (d * b)) (d * b)
  unfold spec_seApart.f apN apD turnN turnD
  rw [w64 (x := d * b) (by omega) (by omega), w64 (x := c * b) (by omega) (by omega), w64 (x := a * d) (by omega) (by omega), w64 (x := c * b - a * d) (by omega) (by omega), w64 (x := c * b - a * d + d * b) (by omega) (by omega), tmod_e (a := c * b - a * d + d * b) (by omega), Int.add_emod_right]
  refine ev_f (by omega) (Ev.bind (diCommon_ev ((c * b - a * d) % (d * b)) (d * b) (by omega) (by omega)) (ev_f (by omega) ?_))
  rw [low_tdiv, low_tdiv', w64 (x := lowN ((c * b - a * d) % (d * b)) (d * b)) (by omega) (by omega), w64 (x := lowD ((c * b - a * d) % (d * b)) (d * b)) (by omega) (by omega)]
  exact ev_now _
theorem TimesTurned_spec (h a b c d : Int) : Ev (fun k => spec_TimesTurned.f k h a b c d) (ttP h a b c d) := by
  unfold spec_TimesTurned.f ttP
  refine Ev.bind (seAsked_ev h a b c d) ?_
  by_cases z : askB h a b c d = true
  · have t := askB_of z
    have q := ap_bd t.2.2.1 t.2.2.2
    rw [if_pos z]
    exact ev_t z (Ev.bind (seApart_ev t.2.2.1 t.2.2.2) (Ev.bind (seAngle_ev t.1 t.2.1 q.1 q.2.1 q.2.2) (ev_now _)))
  · rw [if_neg z]
    exact ev_f z (ev_now _)
theorem ttP_of {h a b c d : Int} (e : (ttP h a b c d).2 = true) : askB h a b c d = true ∧ allT (rootP (apN a b c d) (apD a b c d) (h - 1)) = true ∧ (ttP h a b c d).1 = rootP (apN a b c d) (apD a b c d) (h - 1) := by
  unfold ttP at e ⊢
  by_cases z : askB h a b c d = true
  · rw [if_pos z] at e ⊢
    unfold anglesP at e ⊢
    by_cases y : allT (rootP (apN a b c d) (apD a b c d) (h - 1)) = true
    · rw [if_pos y]
      exact ⟨z, y, rfl⟩
    · rw [if_neg y] at e
      cases e
  · rw [if_neg z] at e
    cases e

/-! turnsOfDial -/
def subT (a b : Int) (t : S23) : S23 := ⟨turnN (a * t.f1 - t.f0 * b) (b * t.f1), turnD (a * t.f1 - t.f0 * b) (b * t.f1)⟩
def subL (a b : Int) (l : List S23) : List S23 := l.map (subT a b)
def allP' (l : List S23) : List S23 × Bool := if allT l = true then (l, true) else ([], false)
def todP (h a b c d : Int) : List S23 × Bool := if (ttP h a b c d).2 = true then allP' (subL a b (ttP h a b c d).1) else ([], false)
theorem sub_take (a b : Int) (l : List S23) (j : Nat) (h : j < l.length) : (subL a b l).take (j + 1) = (subL a b l).take j ++ [subT a b l[j]] := by
  unfold subL
  rw [← List.map_take, ← List.map_take, List.take_succ_eq_append_getElem h, List.map_append]
  rfl
theorem ifTurns_true (l : List S23) (h : l.length ≤ 1000000) : Ev (fun k => impl_ifTurns.f k l true) (allP' l) := by
  unfold impl_ifTurns.f allP'
  refine ev_t rfl (Ev.bind (areTurns_ev l h) ?_)
  by_cases c : allT l = true
  · refine ev_t c ?_
    rw [if_pos c]
    exact ev_now _
  · refine ev_f c ?_
    rw [if_neg c]
    exact ev_now _
theorem dialLoopI {a b : Int} (t : turnB a b = true) (c d : Int) (l : List S23) (h : l.length ≤ 1000) (al : allT l = true) : Ev (fun k => impl_TurnsOfDial.l0 k [] l (l.length : Int) 0 a b c d) (allP' (subL a b l)) := by
  have ll : (subL a b l).length = l.length := List.length_map _
  have go : ∀ (e j : Nat), j + e = l.length → Ev (fun k => impl_TurnsOfDial.l0 k ((subL a b l).take j) l (l.length : Int) j a b c d) (allP' (subL a b l)) := by
    intro e
    induction e with
    | zero =>
      intro j q
      refine ev_succ ?_
      simp only [impl_TurnsOfDial.l0]
      rw [List.take_of_length_le (by omega)]
      exact ev_f (by omega) (Ev.bind (ifTurns_true _ (by omega)) (ev_now _))
    | succ e ih =>
      intro j q
      have hj : j < l.length := by omega
      have u := allT_mem al (List.getElem_mem hj)
      refine ev_succ ?_
      simp only [impl_TurnsOfDial.l0]
      rw [rdT_get l j hj, w64 (x := (j : Int) + 1) (by omega) (by omega)]
      refine ev_t (by omega) (ev_t (by omega) (ev_t (by omega) (Ev.bind (minus_ev t u) (ev_t (by rw [List.length_take]; omega) ?_))))
      have := ih (j + 1) (by omega)
      rw [sub_take a b l j hj] at this
      exact this
  exact go l.length 0 (by omega)
theorem dialLoopS {a b : Int} (t : turnB a b = true) (c d : Int) (l : List S23) (h : l.length ≤ 1000) (al : allT l = true) : Ev (fun k => spec_TurnsOfDial.l0 k [] l (l.length : Int) 0 a b c d) (allP' (subL a b l)) := by
  have ll : (subL a b l).length = l.length := List.length_map _
  have go : ∀ (e j : Nat), j + e = l.length → allT ((subL a b l).take j) = true → Ev (fun k => spec_TurnsOfDial.l0 k ((subL a b l).take j) l (l.length : Int) j a b c d) (allP' (subL a b l)) := by
    intro e
    induction e with
    | zero =>
      intro j q w
      refine ev_succ ?_
      simp only [spec_TurnsOfDial.l0]
      rw [List.take_of_length_le (by omega)] at w ⊢
      unfold allP'
      rw [if_pos w]
      exact ev_f (by omega) (ev_now _)
    | succ e ih =>
      intro j q w
      have hj : j < l.length := by omega
      have u := allT_mem al (List.getElem_mem hj)
      have z := den_bd t u
      have mk := diAddM_ev t u
      unfold makeP at mk
      refine ev_succ ?_
      simp only [spec_TurnsOfDial.l0]
      rw [rdT_get l j hj, w64 (x := (j : Int) + 1) (by omega) (by omega)]
      refine ev_t (by omega) (ev_t (by omega) (ev_t (by omega) (Ev.bind mk ?_)))
      by_cases c : turnD (a * l[j].f1 - l[j].f0 * b) (b * l[j].f1) > 1000000
      · rw [if_pos c]
        have no : ¬ allT (subL a b l) = true := fun y => by
          have m := allT_mem y (show subT a b l[j] ∈ subL a b l from List.mem_map_of_mem (List.getElem_mem hj))
          have := (turnB_of m).2.1
          unfold subT at this
          dsimp only at this
          omega
        unfold allP'
        rw [if_neg no]
        exact ev_f (by simp) (ev_now _)
      · rw [if_neg c]
        refine ev_t rfl (ev_t (by rw [List.length_take]; omega) ?_)
        have := ih (j + 1) (by omega)
        rw [sub_take a b l j hj] at this
        refine this ?_
        unfold allT at w ⊢
        rw [List.all_append, w, List.all_cons, List.all_nil]
        unfold subT
        rw [turn_B (by omega) (by omega)]
        rfl
  exact go l.length 0 (by omega) rfl
theorem TurnsOfDial_impl (h a b c d : Int) : Ev (fun k => impl_TurnsOfDial.f k h a b c d) (todP h a b c d) := by
  unfold impl_TurnsOfDial.f todP
  refine Ev.bind (TimesTurned_impl h a b c d) ?_
  by_cases z : (ttP h a b c d).2 = true
  · have q := ttP_of z
    have t := askB_of q.1
    rw [if_pos z]
    refine ev_t z ?_
    rw [q.2.2]
    exact dialLoopI t.2.2.1 c d _ (by rw [rootP_len]; omega) q.2.1
  · rw [if_neg z]
    exact ev_f z (ev_now _)
theorem TurnsOfDial_spec (h a b c d : Int) : Ev (fun k => spec_TurnsOfDial.f k h a b c d) (todP h a b c d) := by
  unfold spec_TurnsOfDial.f todP
  refine Ev.bind (TimesTurned_spec h a b c d) ?_
  by_cases z : (ttP h a b c d).2 = true
  · have q := ttP_of z
    have t := askB_of q.1
    rw [if_pos z]
    refine ev_t z ?_
    rw [q.2.2]
    exact dialLoopS t.2.2.1 c d _ (by rw [rootP_len]; omega) q.2.1
  · rw [if_neg z]
    exact ev_f z (ev_now _)

/-! turnSeen -/
def addN (a b x y : Int) : Int := turnN (a * y + x * b) (b * y)
def addD (a b x y : Int) : Int := turnD (a * y + x * b) (b * y)
def tsP (a b c d x y : Int) : Int × Int × Int × Int × Bool :=
  if seenB a b c d = true ∧ turnB x y = true then (if addD a b x y ≤ 1000000 ∧ addD c d x y ≤ 1000000 then (addN a b x y, addD a b x y, addN c d x y, addD c d x y, true) else (0, 0, 0, 0, false)) else (0, 0, 0, 0, false)
theorem tsNo_impl (a b c d x y : Int) : Ev (fun k => impl_TurnSeen.j0 k true a b c d x y) (0, 0, 0, 0, false) := ev_one fun k => by simp [impl_TurnSeen.j0]
theorem tsNo_spec (a b c d x y : Int) : Ev (fun k => spec_TurnSeen.j0 k true a b c d x y) (0, 0, 0, 0, false) := ev_one fun k => by simp [spec_TurnSeen.j0]
theorem TurnSeen_impl (a b c d x y : Int) : Ev (fun k => impl_TurnSeen.f k a b c d x y) (tsP a b c d x y) := by
  unfold impl_TurnSeen.f tsP
  refine Ev.bind (IsSeen_ev a b c d) ?_
  by_cases z : seenB a b c d = true
  · refine ev_t z (Ev.bind (isTurn_ev x y) ?_)
    by_cases w : turnB x y = true
    · have t := seenB_of z
      have d1 := den_bd t.1 w
      have d2 := den_bd t.2 w
      rw [if_pos ⟨z, w⟩, w]
      refine ev_succ ?_
      simp only [impl_TurnSeen.j0]
      have sn : seenB (turnN (a * y + x * b) (b * y)) (turnD (a * y + x * b) (b * y)) (turnN (c * y + x * d) (d * y)) (turnD (c * y + x * d) (d * y)) = decide (addD a b x y ≤ 1000000 ∧ addD c d x y ≤ 1000000) := by
        unfold seenB addD
        rw [turnB_dec (by omega), turnB_dec (by omega), Bool.decide_and]
      refine ev_f (by simp) (Ev.bind (plus_ev t.1 w) (Ev.bind (plus_ev t.2 w) (Ev.bind (IsSeen_ev _ _ _ _) ?_)))
      rw [sn]
      by_cases v : addD a b x y ≤ 1000000 ∧ addD c d x y ≤ 1000000
      · rw [if_pos v]
        exact ev_t (decide_eq_true v) (ev_now _)
      · rw [if_neg v]
        exact ev_f (by simp only [decide_eq_true_eq]; exact v) (ev_now _)
    · rw [if_neg (fun q => w q.2)]
      rw [Bool.not_eq_true] at w
      rw [w]
      exact tsNo_impl _ _ _ _ _ _
  · rw [if_neg (fun q => z q.1)]
    exact ev_f z (tsNo_impl _ _ _ _ _ _)
theorem TurnSeen_spec (a b c d x y : Int) : Ev (fun k => spec_TurnSeen.f k a b c d x y) (tsP a b c d x y) := by
  unfold spec_TurnSeen.f tsP
  refine Ev.bind (seGood_ev a b c d) ?_
  by_cases z : seenB a b c d = true
  · refine ev_t z (Ev.bind (diGood_ev x y) ?_)
    by_cases w : turnB x y = true
    · have t := seenB_of z
      have m1 := diAdd1_ev t.1 w
      have m2 := diAdd1_ev t.2 w
      rw [if_pos ⟨z, w⟩, w]
      refine ev_succ ?_
      simp only [spec_TurnSeen.j0]
      by_cases v1 : addD a b x y ≤ 1000000
      · have e1 : makeP (a * y + x * b) (b * y) = (addN a b x y, addD a b x y, true) := if_neg (by unfold addD at v1; omega)
        rw [e1] at m1
        by_cases v2 : addD c d x y ≤ 1000000
        · have e2 : makeP (c * y + x * d) (d * y) = (addN c d x y, addD c d x y, true) := if_neg (by unfold addD at v2; omega)
          rw [e2] at m2
          rw [if_pos ⟨v1, v2⟩]
          exact ev_f (by simp) (Ev.bind m1 (Ev.bind m2 (ev_t rfl (ev_t rfl (ev_now _)))))
        · have e2 : makeP (c * y + x * d) (d * y) = (0, 0, false) := if_pos (by unfold addD at v2; omega)
          rw [e2] at m2
          rw [if_neg (fun q => v2 q.2)]
          exact ev_f (by simp) (Ev.bind m1 (Ev.bind m2 (ev_t rfl (ev_f (by simp) (ev_now _)))))
      · have e1 : makeP (a * y + x * b) (b * y) = (0, 0, false) := if_pos (by unfold addD at v1; omega)
        rw [e1] at m1
        rw [if_neg (fun q => v1 q.1)]
        exact ev_f (by simp) (Ev.bind m1 (Ev.bind m2 (ev_f (by simp) (ev_now _))))
    · rw [if_neg (fun q => w q.2)]
      rw [Bool.not_eq_true] at w
      rw [w]
      exact tsNo_spec _ _ _ _ _ _
  · rw [if_neg (fun q => z q.1)]
    exact ev_f z (tsNo_spec _ _ _ _ _ _)
theorem add_red {a b x y : Int} (hb : 1 ≤ b) (hy : 1 ≤ y) : eqv (addN a b x y) (addD a b x y) (a * y + x * b) (b * y) ∧ 1 ≤ addD a b x y := by
  have p := mul_pos1 hb hy
  have t := turn_bd (n := a * y + x * b) (d := b * y) p
  exact ⟨eqv_symm (eqv_red p), by unfold addD; omega⟩
/-- What is turned and turned back is as it was. -/
theorem back_eq {a b x y : Int} (t : turnB a b = true) (u : turnB x y = true) : addN (addN a b x y) (addD a b x y) (turnN (x * -1) y) (turnD (x * -1) y) = a ∧ addD (addN a b x y) (addD a b x y) (turnN (x * -1) y) (turnD (x * -1) y) = b := by
  have t1 := turnB_of t
  have u1 := turnB_of u
  obtain ⟨r1, p1⟩ := add_red (a := a) (b := b) (x := x) (y := y) (by omega) (by omega)
  have m := eqv_symm (eqv_red (x := x * -1) (d := y) (by omega))
  have mb := turn_bd (n := x * -1) (d := y) (by omega)
  have s := eqv_add r1 m
  have p2 := mul_pos1 (a := addD a b x y) (b := turnD (x * -1) y) p1 (by omega)
  have by_ := mul_pos1 (a := b) (b := y) (by omega) (by omega)
  have byy := mul_pos1 (a := b * y) (b := y) by_ (by omega)
  refine eqv_turn p2 t (eqv_trans byy s ?_)
  exact ⟨0, by grind⟩

/-! diTimes -/
theorem diTimes_ev {n d m : Int} (h1 : 1 ≤ d) (h2 : d ≤ 1000000) (h3 : 0 ≤ n) (h4 : n < d) (h5 : -10000000 ≤ m) (h6 : m ≤ 10000000) : Ev (fun k => spec_diTimes.f k n d m) (turnN (n * m) d, turnD (n * m) d) := by
  have b : -10000000000000 ≤ n * m ∧ n * m ≤ 10000000000000 := by
    rcases Int.le_total 0 m with c | c
    · have := mul_bd (a := n) (b := m) (A := 1000000) (B := 10000000) h3 (by omega) c h6
      omega
    · have := mul_bd (a := n) (b := -m) (A := 1000000) (B := 10000000) h3 (by omega) (by omega) (by omega)
      rw [Int.mul_neg] at this
      omega
  have t := turn_bd (n := n * m) (d := d) h1
  have mk := diMake_ev (n := n * m) (d := d) h1 (by omega) (by omega) (by omega)
  unfold makeP at mk
  rw [if_neg (by omega)] at mk
  unfold spec_diTimes.f
  rw [w64 (by omega) (by omega)]
  exact Ev.bind mk (ev_now _)

/-! tm -/
theorem tm_bd {n d m : Int} (h3 : 0 ≤ n) (h4 : n < d) (h2 : d ≤ 1000000) (h5 : -1000 ≤ m) (h6 : m ≤ 1000) : -1000000000 ≤ n * m ∧ n * m ≤ 1000000000 := by
  rcases Int.le_total 0 m with c | c
  · have := mul_bd (a := n) (b := m) (A := 1000000) (B := 1000) h3 (by omega) c h6
    omega
  · have := mul_bd (a := n) (b := -m) (A := 1000000) (B := 1000) h3 (by omega) (by omega) (by omega)
    rw [Int.mul_neg] at this
    omega
theorem times_ev {n d m : Int} (h : turnB n d = true) (h5 : -1000 ≤ m) (h6 : m ≤ 1000) : Ev (fun k => impl_Turn_times.f k n d m) (turnN (n * m) d, turnD (n * m) d) := by
  have t := turnB_of h
  have b := tm_bd (n := n) (d := d) (m := m) (by omega) (by omega) (by omega) h5 h6
  unfold impl_Turn_times.f
  rw [w64 (by omega) (by omega)]
  exact Ev.bind (part_ev (by omega) (by omega) (by omega) (by omega)) (ev_now _)
theorem diTm_ev {n d m : Int} (h : turnB n d = true) (h5 : -1000 ≤ m) (h6 : m ≤ 1000) : Ev (fun k => spec_diTimes.f k n d m) (turnN (n * m) d, turnD (n * m) d) := by
  have t := turnB_of h
  exact diTimes_ev (by omega) (by omega) (by omega) (by omega) (by omega) (by omega)
theorem tm_B {n d m : Int} (h : turnB n d = true) : turnB (turnN (n * m) d) (turnD (n * m) d) = true := by
  have t := turnB_of h
  have b := turn_bd (n := n * m) (d := d) (by omega)
  exact turn_B (by omega) (by omega)

/-! isTime -/
theorem isTime_ev (h n d : Int) : Ev (fun k => impl_isTime.f k h n d) (decide (2 ≤ h ∧ h ≤ 24) && turnB n d) := by
  unfold impl_isTime.f
  refine ev_p (isDial_eq h) ?_
  by_cases c : 2 ≤ h ∧ h ≤ 24
  · refine ev_t (decide_eq_true c) (Ev.bind (isTurn_ev n d) (ev_con ?_))
    rw [decide_eq_true c, Bool.true_and]
  · refine ev_f (by simp only [decide_eq_true_eq]; exact c) ?_
    rw [decide_eq_false c]
    exact ev_now _

/-! diAsked -/
theorem diAsked_ev (h n d : Int) : Ev (fun k => spec_diAsked.f k h n d) (decide (2 ≤ h ∧ h ≤ 24) && turnB n d) := by
  unfold spec_diAsked.f
  refine ev_p (diHours_eq h) ?_
  by_cases c : 2 ≤ h ∧ h ≤ 24
  · refine ev_t (decide_eq_true c) (Ev.bind (diGood_ev n d) (ev_con ?_))
    rw [decide_eq_true c, Bool.true_and]
  · refine ev_f (by simp only [decide_eq_true_eq]; exact c) ?_
    rw [decide_eq_false c]
    exact ev_now _

/-! seenOf -/
def dialB (h n d : Int) : Bool := decide (2 ≤ h ∧ h ≤ 24) && turnB n d
theorem dialB_of {h n d : Int} (e : dialB h n d = true) : 2 ≤ h ∧ h ≤ 24 ∧ turnB n d = true := by
  unfold dialB at e
  simp only [Bool.and_eq_true, decide_eq_true_eq] at e
  exact ⟨e.1.1, e.1.2, e.2⟩
def seenP (h n d : Int) : Int × Int × Int × Int × Bool := if dialB h n d = true then (n, d, turnN (n * h) d, turnD (n * h) d, true) else (0, 0, 0, 0, false)
theorem SeenOf_impl (h n d : Int) : Ev (fun k => impl_SeenOf.f k h n d) (seenP h n d) := by
  unfold impl_SeenOf.f seenP
  refine Ev.bind (isTime_ev h n d) ?_
  by_cases z : dialB h n d = true
  · have t := dialB_of z
    rw [if_pos z]
    exact ev_t z (Ev.bind (times_ev t.2.2 (by omega) (by omega)) (ev_now _))
  · rw [if_neg z]
    exact ev_f z (ev_now _)
/-! mirror -/
def mirP (a b c d : Int) : Int × Int × Int × Int × Bool := if seenB a b c d = true then (turnN (a * -1) b, turnD (a * -1) b, turnN (c * -1) d, turnD (c * -1) d, true) else (0, 0, 0, 0, false)
theorem implMirror_ev {n d : Int} (t : turnB n d = true) : Ev (fun k => impl_Turn_mirror.f k n d) (turnN (n * -1) d, turnD (n * -1) d) := by
  unfold impl_Turn_mirror.f
  exact Ev.bind (times_ev t (by omega) (by omega)) (ev_now _)
theorem diMirror_ev {n d : Int} (t : turnB n d = true) : Ev (fun k => spec_diMirror.f k n d) (turnN (n * -1) d, turnD (n * -1) d) := by
  unfold spec_diMirror.f
  exact Ev.bind (diTm_ev t (by omega) (by omega)) (ev_now _)
theorem seMirror_ev {a b c d : Int} (t : turnB a b = true) (u : turnB c d = true) : Ev (fun k => spec_seMirror.f k a b c d) (turnN (a * -1) b, turnD (a * -1) b, turnN (c * -1) d, turnD (c * -1) d) := by
  unfold spec_seMirror.f
  exact Ev.bind (diMirror_ev t) (Ev.bind (diMirror_ev u) (ev_now _))
theorem MirrorSeen_impl (a b c d : Int) : Ev (fun k => impl_MirrorSeen.f k a b c d) (mirP a b c d) := by
  unfold impl_MirrorSeen.f mirP
  refine Ev.bind (IsSeen_ev a b c d) ?_
  by_cases z : seenB a b c d = true
  · have t := seenB_of z
    rw [if_pos z]
    exact ev_t z (Ev.bind (implMirror_ev t.1) (Ev.bind (implMirror_ev t.2) (ev_now _)))
  · rw [if_neg z]
    exact ev_f z (ev_now _)

/-! withAngle -/
def waP (h n d : Int) : List S23 × Bool := if dialB h n d = true then anglesP h n d else ([], false)
theorem WithAngle_impl (h n d : Int) : Ev (fun k => impl_TimesWithAngle.f k h n d) (waP h n d) := by
  unfold impl_TimesWithAngle.f waP
  refine Ev.bind (isTime_ev h n d) ?_
  by_cases z : dialB h n d = true
  · have t := dialB_of z
    have u := turnB_of t.2.2
    rw [if_pos z]
    exact ev_t z (anglesI_ev t.1 t.2.1 (by omega) (by omega) (by omega))
  · rw [if_neg z]
    exact ev_f z (ev_now _)
theorem WithAngle_spec (h n d : Int) : Ev (fun k => spec_TimesWithAngle.f k h n d) (waP h n d) := by
  unfold spec_TimesWithAngle.f waP
  refine Ev.bind (diAsked_ev h n d) ?_
  by_cases z : dialB h n d = true
  · have t := dialB_of z
    have u := turnB_of t.2.2
    rw [if_pos z]
    exact ev_t z (Ev.bind (seAngle_ev t.1 t.2.1 (by omega) (by omega) (by omega)) (ev_now _))
  · rw [if_neg z]
    exact ev_f z (ev_now _)
theorem AngleOf_ev {h n d : Int} (e : dialB h n d = true) : Ev (fun k => impl_AngleOf.f k h n d) (turnN (n * (h - 1)) d, turnD (n * (h - 1)) d, true) := by
  have t := dialB_of e
  unfold impl_AngleOf.f
  rw [w64 (x := h - 1) (by omega) (by omega)]
  exact Ev.bind (isTime_ev h n d) (ev_t e (Ev.bind (times_ev t.2.2 (by omega) (by omega)) (ev_now _)))
theorem MirrorTurn_ev {n d : Int} (t : turnB n d = true) : Ev (fun k => impl_MirrorTurn.f k n d) (turnN (n * -1) d, turnD (n * -1) d, true) := by
  unfold impl_MirrorTurn.f
  exact Ev.bind (isTurn_ev n d) (ev_t t (Ev.bind (implMirror_ev t) (ev_now _)))
theorem MirrorSeen_spec (a b c d : Int) : Ev (fun k => spec_MirrorSeen.f k a b c d) (mirP a b c d) := by
  unfold spec_MirrorSeen.f mirP
  refine Ev.bind (seGood_ev a b c d) ?_
  by_cases z : seenB a b c d = true
  · have t := seenB_of z
    rw [if_pos z]
    exact ev_t z (Ev.bind (seMirror_ev t.1 t.2) (ev_now _))
  · rw [if_neg z]
    exact ev_f z (ev_now _)

/-! wRises -/
theorem wRises_ev (l : List S23) (h : l.length ≤ 1000000) (hb : ∀ j : Int, 0 ≤ j → j < l.length → turnB (rd_T23 l j).f0 (rd_T23 l j).f1 = true)
    (hr : ∀ j : Int, 1 ≤ j → j < l.length → (rd_T23 l (j - 1)).f0 * (rd_T23 l j).f1 < (rd_T23 l j).f0 * (rd_T23 l (j - 1)).f1) : Ev (fun k => laws_wRises.f k l) true := by
  unfold laws_wRises.f
  rcases Nat.lt_or_ge l.length 1 with c | c
  · refine ev_one fun k => ?_
    simp only [laws_wRises.l0]
    rw [if_neg (by omega)]
  · refine scan_from (g := fun i k => laws_wRises.l0 k l i) (n := l.length) (fun i a b ih => ?_) (ev_one fun k => by
      simp only [laws_wRises.l0]
      rw [if_neg (by omega)]) (by omega)
    have b1 := hb i (by omega) b
    have b0 := hb (i - 1) (by omega) (by omega)
    have c1 := cross_bd b0 b1
    have c2 := cross_bd b1 b0
    have r := hr i a b
    refine ev_succ ?_
    simp only [laws_wRises.l0]
    rw [w64 (x := i - 1) (by omega) (by omega), w64 (x := (rd_T23 l (i - 1)).f0 * (rd_T23 l i).f1) (by omega) (by omega), w64 (x := (rd_T23 l i).f0 * (rd_T23 l (i - 1)).f1) (by omega) (by omega), w64 (x := i + 1) (by omega) (by omega)]
    exact ev_t b (ev_t (by omega) (ev_t (by omega) (ev_t (by omega) (ev_f (by omega) ih))))

/-! rootRise -/
theorem root_rise {n d k : Int} (h1 : 0 ≤ n) (h2 : n < d) (hk : 1 ≤ k) (hk' : k ≤ 1000) (al : allT (rootP n d k) = true) : Ev (fun z => laws_wRises.f z (rootP n d k)) true := by
  have l := rootP_len n d k
  have dp := mul_pos1 (a := d) (b := k) (by omega) (by omega)
  have lt : ∀ j : Int, 0 ≤ j → j < k → 0 ≤ n + j * d ∧ n + j * d < d * k := by
    intro j a b
    have m1 : 0 ≤ j * d := Int.mul_nonneg a (by omega)
    have m2 : (j + 1) * d ≤ k * d := Int.mul_le_mul_of_nonneg_right (by omega) (by omega)
    rw [Int.add_mul, Int.one_mul, Int.mul_comm k d] at m2
    omega
  refine wRises_ev (rootP n d k) (by omega) (fun j a b => ?_) (fun j a b => ?_)
  · rw [root_at j a (by omega)]
    exact allT_mem al (mem_root j a (by omega))
  · rw [root_at j (by omega) (by omega), root_at (j - 1) (by omega) (by omega)]
    have l1 := lt j (by omega) (by omega)
    have l0 := lt (j - 1) (by omega) (by omega)
    dsimp only
    unfold turnN turnD
    rw [Int.emod_eq_of_lt l1.1 l1.2, Int.emod_eq_of_lt l0.1 l0.2]
    refine low_rise dp ?_
    rw [Int.sub_mul, Int.one_mul]
    omega

/-! wHas -/
def hasB (l : List S23) (a b : Int) : Bool := l.any fun x => x.f0 == a && x.f1 == b
theorem wHas_ev (l : List S23) (a b : Int) (h : l.length ≤ 1000000) : Ev (fun k => laws_wHas.f k l a b) (hasB l a b) := by
  have go : ∀ (d j : Nat), j + d = l.length → Ev (fun k => laws_wHas.l0 k l (l.length : Int) j a b) ((l.drop j).any fun x => x.f0 == a && x.f1 == b) := by
    intro d
    induction d with
    | zero =>
      intro j e
      refine ev_one fun k => ?_
      simp only [laws_wHas.l0]
      rw [if_neg (by omega), List.drop_of_length_le (by omega)]
      rfl
    | succ d ih =>
      intro j e
      have hj : j < l.length := by omega
      refine ev_succ ?_
      simp only [laws_wHas.l0]
      rw [w64 (by omega) (by omega), rdT_get l j hj, List.drop_eq_getElem_cons hj, List.any_cons]
      refine ev_t (by omega) (ev_t (by omega) (ev_t (by omega) ?_))
      cases c : (l[j].f0 == a && l[j].f1 == b)
      · rw [Bool.false_or]
        exact ev_f (by simp) (ih (j + 1) (by omega))
      · rw [Bool.true_or]
        exact ev_t rfl (ev_now _)
  have := go l.length 0 (by omega)
  rw [List.drop_zero] at this
  exact this

/-! trueB -/
def trueB (h a b c d : Int) : Bool := turnN (a * h) b == c && turnD (a * h) b == d
theorem isTrue_ev {h a b : Int} (c d : Int) (t : turnB a b = true) (z1 : -1000 ≤ h) (z2 : h ≤ 1000) : Ev (fun k => impl_isTrue.f k h a b c d) (trueB h a b c d) := by
  unfold impl_isTrue.f
  exact Ev.bind (times_ev t z1 z2) (ev_now _)
theorem seTrue_ev {h a b : Int} (c d : Int) (t : turnB a b = true) (z1 : -1000 ≤ h) (z2 : h ≤ 1000) : Ev (fun k => spec_seTrue.f k h a b c d) (trueB h a b c d) := by
  unfold spec_seTrue.f
  exact Ev.bind (diTm_ev t z1 z2) (ev_now _)
def isTrueP (h a b c d : Int) : Bool × Bool := (askB h a b c d && trueB h a b c d, askB h a b c d)
theorem IsTrueSeen_impl (h a b c d : Int) : Ev (fun k => impl_IsTrueSeen.f k h a b c d) (isTrueP h a b c d) := by
  unfold impl_IsTrueSeen.f isTrueP
  refine Ev.bind (isSeenOf_ev h a b c d) ?_
  by_cases z : askB h a b c d = true
  · have t := askB_of z
    refine ev_t z (Ev.bind (isTrue_ev c d t.2.2.1 (by omega) (by omega)) (Ev.bind (isSeenOf_ev h a b c d) (ev_con ?_)))
    rw [z, Bool.true_and]
  · refine ev_f z (Ev.bind (isSeenOf_ev h a b c d) (ev_con ?_))
    rw [Bool.not_eq_true] at z
    rw [z, Bool.false_and]
/-! cmpCompare -/
/-! l1Sign -/
/-! two -/
/-- Two turns in order, a double left out. -/
def two (p q : S23) : List S23 := if p.f0 * q.f1 < q.f0 * p.f1 then [p, q] else if q.f0 = p.f0 ∧ q.f1 = p.f1 then [p] else [q, p]
def srt : List S23 → List S23
  | [p, q] => two p q
  | l => l
theorem cpt2 (u v : S23) : cpt [u, v] = if v.f0 = u.f0 ∧ v.f1 = u.f1 then [u] else [u, v] := rfl
theorem compare_eq {p q : S23} (hp : turnB p.f0 p.f1 = true) (hq : turnB q.f0 q.f1 = true) : impl_Turn_compare.f p.f0 p.f1 q.f0 q.f1 = some (if p.f0 * q.f1 < q.f0 * p.f1 then -1 else if p.f0 * q.f1 > q.f0 * p.f1 then 1 else 0) := by
  have b1 := cross_bd hp hq
  have b2 := cross_bd hq hp
  unfold impl_Turn_compare.f
  rw [w64 (by omega) (by omega), w64 (by omega) (by omega)]
  unfold cmp_Compare_int.f cmp_isNaN_int.f
  simp only [bne_self_eq_false, Option.bind_some, Bool.false_eq_true, if_false]
  split
  · rfl
  · split <;> rfl
theorem sorted_ev (l : List S23) (h : l.length ≤ 2) (hl : ∀ x ∈ l, turnB x.f0 x.f1 = true) : Ev (fun k => impl_sorted.f k l) (srt l) := by
  unfold impl_sorted.f impl_Turn_73.f
  refine ev_t h ?_
  rw [Option.bind_some, if_pos (by simp only [List.length_nil]; omega), List.nil_append]
  refine ev_p rfl (ev_t h ?_)
  unfold impl_Turn_91.f
  match l, h, hl with
  | [], _, _ =>
    refine Ev.bind (a := ([] : List S23)) (ev_one fun k => ?_) (ev_t (by decide) (ev_now _))
    simp only [impl_Turn_91.l0]
    rw [if_neg (by rw [w64 (by omega) (by omega)]; simp)]
  | [p], _, _ =>
    refine Ev.bind (a := [p]) (ev_one fun k => ?_) (ev_t (by simp) (ev_now _))
    simp only [impl_Turn_91.l0]
    rw [if_neg (by rw [w64 (by omega) (by omega)]; simp)]
  | [p, q], _, hl =>
    have hp := hl p (by simp)
    have hq := hl q (by simp)
    have c := compare_eq hq hp
    have x1 : wrap64 (0 + 1) = 1 := w64 (by omega) (by omega)
    have x0 : wrap64 (1 - 1) = 0 := w64 (by omega) (by omega)
    have x2 : wrap64 (1 + 1) = 2 := w64 (by omega) (by omega)
    have r1 : rd_T23 [p, q] 1 = q := rfl
    have r0 : rd_T23 [p, q] 0 = p := rfl
    have fin : ∀ s : List S23, Ev (fun k => impl_Turn_91.l0 k s 0 2 2) s := fun s => ev_one fun k => by
      simp only [impl_Turn_91.l0]
      rw [if_neg (by decide)]
    have go : Ev (fun k => impl_Turn_91.l0 k [p, q] 0 (([p, q] : List S23).length : Int) (wrap64 (0 + 1))) (if q.f0 * p.f1 < p.f0 * q.f1 then [q, p] else [p, q]) := by
      rw [x1]
      refine ev_succ ?_
      simp only [impl_Turn_91.l0]
      refine ev_t (by simp) (ev_succ ?_)
      simp only [impl_Turn_91.l1]
      rw [x0, r1, r0, x2]
      refine ev_t (by decide) (ev_t (by decide) (ev_t (by simp) (ev_t (by decide) (ev_t (by simp) (ev_p c ?_)))))
      by_cases d : q.f0 * p.f1 < p.f0 * q.f1
      · rw [if_pos d, if_pos d]
        refine ev_t (by decide) ?_
        have e : (([p, q] : List S23).set (1 : Int).toNat ⟨p.f0, p.f1⟩).set (0 : Int).toNat ⟨q.f0, q.f1⟩ = [q, p] := rfl
        rw [e]
        refine ev_succ ?_
        simp only [impl_Turn_91.l1]
        rw [x2]
        exact ev_f (by decide) (fin [q, p])
      · rw [if_neg d, if_neg d]
        refine ev_f ?_ (fin [p, q])
        split <;> decide
    refine Ev.bind go (ev_t (by split <;> simp) (ev_con ?_))
    congr 1
    show _ = two p q
    unfold two
    by_cases d : q.f0 * p.f1 < p.f0 * q.f1
    · rw [if_pos d, if_neg (by omega)]
      have n : ¬ (q.f0 = p.f0 ∧ q.f1 = p.f1) := fun z => by
        rw [z.1, z.2] at d
        omega
      rw [cpt2, if_neg n, if_neg (fun z => n ⟨z.1.symm, z.2.symm⟩)]
    · rw [if_neg d]
      by_cases e : p.f0 * q.f1 < q.f0 * p.f1
      · rw [if_pos e]
        rw [cpt2, if_neg (fun z => by rw [z.1, z.2] at e; omega)]
      · rw [if_neg e]
        have f := frac_eq hp hq (by omega)
        rw [cpt2, if_pos ⟨f.1.symm, f.2.symm⟩, if_pos ⟨f.1.symm, f.2.symm⟩]

/-! sePut -/
theorem diCompare_eq {p q : S23} (hp : turnB p.f0 p.f1 = true) (hq : turnB q.f0 q.f1 = true) : spec_diCompare.f p.f0 p.f1 q.f0 q.f1 = some (if p.f0 * q.f1 - q.f0 * p.f1 > 0 then 1 else if p.f0 * q.f1 - q.f0 * p.f1 < 0 then -1 else 0) := by
  have b1 := cross_bd hp hq
  have b2 := cross_bd hq hp
  unfold spec_diCompare.f spec_l1Sign.f
  rw [w64 (x := p.f0 * q.f1) (by omega) (by omega), w64 (x := q.f0 * p.f1) (by omega) (by omega), w64 (by omega) (by omega)]
  split
  · rfl
  · split <;> rfl
theorem sePut_nil (q : S23) : Ev (fun k => spec_sePut.f k [] q.f0 q.f1) [q] := by
  unfold spec_sePut.f
  refine ev_one fun k => ?_
  simp [spec_sePut.l0]
theorem sePut_one {p q : S23} (hp : turnB p.f0 p.f1 = true) (hq : turnB q.f0 q.f1 = true) : Ev (fun k => spec_sePut.f k [p] q.f0 q.f1) (two p q) := by
  have c := diCompare_eq hp hq
  have r0 : rd_T23 [p] 0 = p := rfl
  have x1 : wrap64 (0 + 1) = 1 := w64 (by omega) (by omega)
  unfold spec_sePut.f two
  by_cases d : p.f0 * q.f1 < q.f0 * p.f1
  · rw [if_pos d]
    rw [if_neg (by omega), if_pos (by omega)] at c
    refine ev_two fun k => ?_
    simp only [spec_sePut.l0]
    rw [r0, c, x1]
    simp
  · rw [if_neg d]
    by_cases e : q.f0 = p.f0 ∧ q.f1 = p.f1
    · rw [if_pos e]
      rw [if_neg (by rw [e.1, e.2]; omega), if_neg (by rw [e.1, e.2]; omega)] at c
      refine ev_one fun k => ?_
      simp only [spec_sePut.l0]
      rw [r0, c]
      simp [e.1, e.2]
    · rw [if_neg e]
      have f : p.f0 * q.f1 - q.f0 * p.f1 > 0 := by
        rcases Int.lt_or_le (q.f0 * p.f1) (p.f0 * q.f1) with z | z
        · omega
        · have g := frac_eq hp hq (by omega)
          exact absurd ⟨g.1.symm, g.2.symm⟩ e
      rw [if_pos f] at c
      have n : ¬ (p.f0 == q.f0 && p.f1 == q.f1) = true := by
        intro z
        simp only [Bool.and_eq_true, beq_iff_eq] at z
        exact e ⟨z.1.symm, z.2.symm⟩
      refine ev_one fun k => ?_
      simp only [spec_sePut.l0]
      rw [r0, c]
      simp [n]

/-! glass -/
def glassP (h a b c d : Int) : List S23 × Bool := if askB h a b c d = true then (if trueB h a b c d = true then (two ⟨a, b⟩ ⟨turnN (a * -1) b, turnD (a * -1) b⟩, true) else ([], true)) else ([], false)
theorem trueB_eqv {h a b c d : Int} (t : turnB a b = true) (u : turnB c d = true) : trueB h a b c d = true ↔ eqv (a * h) b c d := by
  have t1 := turnB_of t
  have u1 := turnB_of u
  unfold trueB
  rw [Bool.and_eq_true, beq_iff_eq, beq_iff_eq]
  constructor
  · intro z
    have r := eqv_red (x := a * h) (d := b) (by omega)
    rw [z.1, z.2] at r
    exact r
  · exact eqv_turn (by omega) u
theorem mirror_true {h a b c d : Int} (t : turnB a b = true) (u : turnB c d = true) (e : trueB h a b c d = true) : trueB h (turnN (a * -1) b) (turnD (a * -1) b) (turnN (c * -1) d) (turnD (c * -1) d) = true := by
  have t1 := turnB_of t
  have u1 := turnB_of u
  refine (trueB_eqv (tm_B t) (tm_B u)).2 ?_
  have x := (trueB_eqv t u).1 e
  have m1 := eqv_symm (eqv_red (x := a * -1) (d := b) (by omega))
  have m2 := eqv_red (x := c * -1) (d := d) (by omega)
  have s1 := eqv_mul h m1
  have s2 := eqv_mul (-1) x
  have s3 := eqv_trans (by omega) (eqv_num s1 rfl rfl (show a * h * -1 = a * -1 * h by rw [Int.mul_right_comm]) rfl) s2
  exact eqv_trans (by omega) s3 m2
theorem mirror_trueB {h a b c d : Int} (t : turnB a b = true) (u : turnB c d = true) : trueB h (turnN (a * -1) b) (turnD (a * -1) b) (turnN (c * -1) d) (turnD (c * -1) d) = trueB h a b c d := by
  rw [Bool.eq_iff_iff]
  constructor
  · intro z
    have y := mirror_true (tm_B t) (tm_B u) z
    have ma := mir_mir t
    have mc := mir_mir u
    rw [ma.1, ma.2, mc.1, mc.2] at y
    exact y
  · exact mirror_true t u
theorem Glass_impl (h a b c d : Int) : Ev (fun k => impl_TimesInGlass.f k h a b c d) (glassP h a b c d) := by
  unfold impl_TimesInGlass.f glassP
  refine Ev.bind (isSeenOf_ev h a b c d) ?_
  by_cases z : askB h a b c d = true
  · have t := askB_of z
    rw [if_pos z]
    refine ev_t z (Ev.bind (isTrue_ev c d t.2.2.1 (by omega) (by omega)) ?_)
    by_cases y : trueB h a b c d = true
    · rw [if_pos y]
      refine ev_t y (Ev.bind (implMirror_ev t.2.2.1) (Ev.bind (sorted_ev _ (by simp) ?_) (ev_now _)))
      intro x hx
      rcases List.mem_cons.1 hx with rfl | hx
      · exact t.2.2.1
      · obtain rfl := List.mem_singleton.1 hx
        exact tm_B t.2.2.1
    · refine ev_f y ?_
      rw [if_neg y]
      exact ev_now _
  · rw [if_neg z]
    exact ev_f z (ev_now _)
theorem Glass_spec (h a b c d : Int) : Ev (fun k => spec_TimesInGlass.f k h a b c d) (glassP h a b c d) := by
  unfold spec_TimesInGlass.f glassP
  refine Ev.bind (seAsked_ev h a b c d) ?_
  by_cases z : askB h a b c d = true
  · have t := askB_of z
    have mb := tm_B (m := -1) t.2.2.1
    have mt := mirror_trueB (h := h) t.2.2.1 t.2.2.2
    rw [if_pos z]
    refine ev_t z (Ev.bind (seMirror_ev t.2.2.1 t.2.2.2) (ev_p rfl ?_))
    have x1 : wrap64 (0 + 1) = 1 := w64 (by omega) (by omega)
    have x2 : wrap64 (1 + 1) = 2 := w64 (by omega) (by omega)
    dsimp only
    generalize hR : [(⟨(⟨a, b⟩ : S23), (⟨c, d⟩ : S23)⟩ : S25), (⟨(⟨turnN (a * -1) b, turnD (a * -1) b⟩ : S23), (⟨turnN (c * -1) d, turnD (c * -1) d⟩ : S23)⟩ : S25)] = R
    have r0 : rd_T25 R 0 = (⟨(⟨a, b⟩ : S23), (⟨c, d⟩ : S23)⟩ : S25) := by rw [← hR]; rfl
    have r1 : rd_T25 R 1 = (⟨(⟨turnN (a * -1) b, turnD (a * -1) b⟩ : S23), (⟨turnN (c * -1) d, turnD (c * -1) d⟩ : S23)⟩ : S25) := by rw [← hR]; rfl
    have hn : R.length = 2 := by rw [← hR]; rfl
    have fin : ∀ l : List S23, Ev (fun k => spec_TimesInGlass.l0 k h l R (R.length : Int) 2) (l, true) := fun l => ev_one fun k => by
      simp only [spec_TimesInGlass.l0]
      rw [if_neg (by omega)]
    have s1 := seTrue_ev (h := h) (turnN (c * -1) d) (turnD (c * -1) d) mb (by omega) (by omega)
    rw [mt] at s1
    refine ev_succ ?_
    simp only [spec_TimesInGlass.l0]
    rw [r0, x1]
    refine ev_t (by omega) (ev_t (by decide) (ev_t (by omega) (Ev.bind (seTrue_ev _ _ t.2.2.1 (by omega) (by omega)) ?_)))
    dsimp only
    by_cases y : trueB h a b c d = true
    · rw [y] at s1
      rw [if_pos y]
      refine ev_t y (Ev.bind (sePut_nil ⟨a, b⟩) (ev_succ ?_))
      simp only [spec_TimesInGlass.l0]
      rw [r1, x2]
      exact ev_t (by omega) (ev_t (by decide) (ev_t (by omega) (Ev.bind s1 (ev_t rfl (Ev.bind (sePut_one (p := ⟨a, b⟩) (q := ⟨turnN (a * -1) b, turnD (a * -1) b⟩) t.2.2.1 mb) (fin _))))))
    · rw [if_neg y]
      rw [Bool.not_eq_true] at y
      rw [y] at s1
      refine ev_f (by rw [y]; simp) (ev_succ ?_)
      simp only [spec_TimesInGlass.l0]
      rw [r1, x2]
      exact ev_t (by omega) (ev_t (by decide) (ev_t (by omega) (Ev.bind s1 (ev_f (by simp) (fin _)))))
  · rw [if_neg z]
    exact ev_f z (ev_now _)

/-! dialFacts -/
/-- A root, so many times, is what it is a root of. -/
theorem root_eqv {n d k : Int} (hd : 1 ≤ d) (hk : 1 ≤ k) (i : Int) : eqv (turnN (n + i * d) (d * k) * k) (turnD (n + i * d) (d * k)) n d := by
  have p := mul_pos1 hd hk
  have e := eqv_mul k (eqv_symm (eqv_red (x := n + i * d) (d := d * k) p))
  exact eqv_trans p e ⟨i, by grind⟩
theorem ap_eqv {a b c d : Int} (h : turnB a b = true) (g : turnB c d = true) : eqv (apN a b c d) (apD a b c d) (c * b - a * d) (d * b) ∧ 1 ≤ apD a b c d := by
  have z := den_bd g h
  have t := turn_bd (n := c * b - a * d) (d := d * b) (by omega)
  refine ⟨eqv_symm (eqv_red (by omega)), ?_⟩
  unfold apD
  omega
theorem sub_eqv {a b x y : Int} (hb : 1 ≤ b) (hy : 1 ≤ y) : eqv (subT a b ⟨x, y⟩).f0 (subT a b ⟨x, y⟩).f1 (a * y - x * b) (b * y) ∧ 1 ≤ (subT a b ⟨x, y⟩).f1 := by
  have p := mul_pos1 hb hy
  have t := turn_bd (n := a * y - x * b) (d := b * y) p
  exact ⟨eqv_symm (eqv_red p), by unfold subT; dsimp only; omega⟩
/-- What is seen at one of the times, the dial turned back, is what was given. -/
theorem moved {h a b c d i : Int} (t : turnB a b = true) (u : turnB c d = true) (z1 : 2 ≤ h) (x y : Int) (w : turnB x y = true) (ex : x = turnN (apN a b c d + i * apD a b c d) (apD a b c d * (h - 1))) (ey : y = turnD (apN a b c d + i * apD a b c d) (apD a b c d * (h - 1))) :
    addN x y (subT a b ⟨x, y⟩).f0 (subT a b ⟨x, y⟩).f1 = a ∧ addD x y (subT a b ⟨x, y⟩).f0 (subT a b ⟨x, y⟩).f1 = b ∧ addN (turnN (x * h) y) (turnD (x * h) y) (subT a b ⟨x, y⟩).f0 (subT a b ⟨x, y⟩).f1 = c ∧ addD (turnN (x * h) y) (turnD (x * h) y) (subT a b ⟨x, y⟩).f0 (subT a b ⟨x, y⟩).f1 = d := by
  have t1 := turnB_of t
  have u1 := turnB_of u
  have w1 := turnB_of w
  obtain ⟨s1, p1⟩ := sub_eqv (a := a) (b := b) (x := x) (y := y) (by omega) (by omega)
  obtain ⟨ae, ap⟩ := ap_eqv t u
  have rt := root_eqv (n := apN a b c d) (d := apD a b c d) (k := h - 1) ap (by omega) i
  rw [← ex, ← ey] at rt
  have rt2 := eqv_trans ap rt ae
  have hb := turn_bd (n := x * h) (d := y) (by omega)
  have he := eqv_symm (eqv_red (x := x * h) (d := y) (by omega))
  have by_ := mul_pos1 (a := b) (b := y) (by omega) (by omega)
  have db := mul_pos1 (a := d) (b := b) (by omega) (by omega)
  have yby := mul_pos1 (a := y) (b := b * y) (by omega) by_
  have q1 := mul_pos1 (a := y) (b := (subT a b ⟨x, y⟩).f1) (by omega) p1
  have q2 := mul_pos1 (a := turnD (x * h) y) (b := (subT a b ⟨x, y⟩).f1) (by omega) p1
  have e1 : addN x y (subT a b ⟨x, y⟩).f0 (subT a b ⟨x, y⟩).f1 = a ∧ addD x y (subT a b ⟨x, y⟩).f0 (subT a b ⟨x, y⟩).f1 = b := by
    refine eqv_turn q1 t (eqv_trans yby (eqv_add (eqv_refl x y) s1) ?_)
    exact ⟨0, by grind⟩
  have e2 : addN (turnN (x * h) y) (turnD (x * h) y) (subT a b ⟨x, y⟩).f0 (subT a b ⟨x, y⟩).f1 = c ∧ addD (turnN (x * h) y) (turnD (x * h) y) (subT a b ⟨x, y⟩).f0 (subT a b ⟨x, y⟩).f1 = d := by
    have st := eqv_add he s1
    have m1 : eqv (x * h * (b * y) + (a * y - x * b) * y) (y * (b * y)) (x * (h - 1) * b + a * y) (y * b) := ⟨0, by grind⟩
    have m2 := eqv_add rt2 (eqv_refl a b)
    have m3 : eqv ((c * b - a * d) * b + a * (d * b)) (d * b * b) c d := ⟨0, by grind⟩
    have dbb := mul_pos1 (a := d * b) (b := b) db (by omega)
    have yb := mul_pos1 (a := y) (b := b) (by omega) (by omega)
    exact eqv_turn q2 u (eqv_trans yby st (eqv_trans yb m1 (eqv_trans dbb m2 m3)))
  exact ⟨e1.1, e1.2, e2.1, e2.2⟩
/-- If what was given is true, its own time is among them. -/
theorem own_time {h a b c d : Int} (t : turnB a b = true) (u : turnB c d = true) (z1 : 2 ≤ h) (e : trueB h a b c d = true) : hasB (rootP (apN a b c d) (apD a b c d) (h - 1)) a b = true := by
  have t1 := turnB_of t
  have u1 := turnB_of u
  obtain ⟨ae, ap⟩ := ap_eqv t u
  have bd := ap_bd t u
  have tr := eqv_symm ((trueB_eqv t u).1 e)
  have ds := eqv_sub tr (eqv_refl a b)
  have db := mul_pos1 (a := d) (b := b) (by omega) (by omega)
  have bb := mul_pos1 (a := b) (b := b) (by omega) (by omega)
  have m1 : eqv (a * h * b - a * b) (b * b) (a * (h - 1)) b := ⟨0, by grind⟩
  have dm := Int.emod_add_mul_ediv (a * (h - 1)) b
  have r0 := Int.emod_nonneg (a * (h - 1)) (show b ≠ 0 by omega)
  have r1 := Int.emod_lt_of_pos (a * (h - 1)) (show 0 < b by omega)
  have i0 : 0 ≤ a * (h - 1) / b := Int.ediv_nonneg (Int.mul_nonneg (by omega) (by omega)) (by omega)
  have i1 : a * (h - 1) / b < h - 1 := by
    refine Int.ediv_lt_of_lt_mul (by omega) ?_
    rw [Int.mul_comm (h - 1) b]
    exact Int.mul_lt_mul_of_pos_right (by omega) (by omega)
  generalize hi : a * (h - 1) / b = i at *
  generalize hr : a * (h - 1) % b = r at *
  have m2 : eqv (a * (h - 1)) b r b := ⟨i, by grind⟩
  obtain ⟨q, hq⟩ := eqv_trans db ae (eqv_trans bb ds (eqv_trans (by omega) m1 m2))
  generalize apN a b c d = n at *
  generalize apD a b c d = m at *
  have mb := mul_pos1 (a := m) (b := b) ap (by omega)
  have k1 : 0 ≤ n * b := Int.mul_nonneg (by omega) (by omega)
  have k2 : n * b < m * b := Int.mul_lt_mul_of_pos_right bd.2.1 (by omega)
  have k3 : 0 ≤ r * m := Int.mul_nonneg r0 (by omega)
  have k4 : r * m < b * m := Int.mul_lt_mul_of_pos_right r1 (by omega)
  rw [Int.mul_comm b m] at k4
  have q0 : q = 0 := by
    rcases Int.lt_trichotomy q 0 with c1 | c1 | c1
    · have : q * (m * b) ≤ -1 * (m * b) := Int.mul_le_mul_of_nonneg_right (by omega) (by omega)
      omega
    · exact c1
    · have : 1 * (m * b) ≤ q * (m * b) := Int.mul_le_mul_of_nonneg_right (by omega) (by omega)
      omega
  rw [q0, Int.zero_mul] at hq
  have mk := mul_pos1 (a := m) (b := h - 1) ap (by omega)
  have ev : eqv (n + i * m) (m * (h - 1)) a b := ⟨0, by grind⟩
  have et := eqv_turn mk t ev
  have mem := mem_root (n := n) (d := m) (k := h - 1) i i0 i1
  rw [et.1, et.2] at mem
  unfold hasB
  rw [List.any_eq_true]
  exact ⟨_, mem, by simp⟩

/-! alike -/
/-! alikeFacts -/
theorem rd_0 (p : S23) (l : List S23) : rd_T23 (p :: l) 0 = p := rfl
theorem rd_1 (p q : S23) (l : List S23) : rd_T23 (p :: q :: l) 1 = q := rfl
theorem rises_one (p : S23) (hp : turnB p.f0 p.f1 = true) : Ev (fun k => laws_wRises.f k [p]) true :=
  wRises_ev [p] (by simp) (fun j a b => by
    simp only [List.length_cons, List.length_nil] at b
    obtain rfl : j = 0 := by omega
    rw [rd_0]
    exact hp) (fun j a b => by
    simp only [List.length_cons, List.length_nil] at b
    omega)
theorem rises_two (p q : S23) (hp : turnB p.f0 p.f1 = true) (hq : turnB q.f0 q.f1 = true) (h : p.f0 * q.f1 < q.f0 * p.f1) : Ev (fun k => laws_wRises.f k [p, q]) true :=
  wRises_ev [p, q] (by simp) (fun j a b => by
    simp only [List.length_cons, List.length_nil] at b
    rcases (by omega : j = 0 ∨ j = 1) with rfl | rfl
    · rw [rd_0]
      exact hp
    · rw [rd_1]
      exact hq) (fun j a b => by
    simp only [List.length_cons, List.length_nil] at b
    obtain rfl : j = 1 := by omega
    rw [show (1 : Int) - 1 = 0 by omega, rd_0, rd_1]
    exact h)
theorem two_cases {p q : S23} (hp : turnB p.f0 p.f1 = true) (hq : turnB q.f0 q.f1 = true) :
    (two p q = [p, q] ∧ p.f0 * q.f1 < q.f0 * p.f1 ∧ ¬ (q.f0 = p.f0 ∧ q.f1 = p.f1)) ∨ (two p q = [p] ∧ q.f0 = p.f0 ∧ q.f1 = p.f1) ∨ (two p q = [q, p] ∧ q.f0 * p.f1 < p.f0 * q.f1 ∧ ¬ (q.f0 = p.f0 ∧ q.f1 = p.f1)) := by
  unfold two
  by_cases d : p.f0 * q.f1 < q.f0 * p.f1
  · rw [if_pos d]
    exact Or.inl ⟨rfl, d, fun z => by rw [z.1, z.2] at d; omega⟩
  · rw [if_neg d]
    by_cases e : q.f0 = p.f0 ∧ q.f1 = p.f1
    · rw [if_pos e]
      exact Or.inr (Or.inl ⟨rfl, e⟩)
    · rw [if_neg e]
      refine Or.inr (Or.inr ⟨rfl, ?_, e⟩)
      rcases Int.lt_or_le (q.f0 * p.f1) (p.f0 * q.f1) with z | z
      · exact z
      · have g := frac_eq hp hq (by omega)
        exact absurd ⟨g.1.symm, g.2.symm⟩ e
/-- What is told of two turns in order: it rises, it has the two, and it has one or two of them. -/
theorem two_facts {p q : S23} (hp : turnB p.f0 p.f1 = true) (hq : turnB q.f0 q.f1 = true) :
    Ev (fun k => laws_wRises.f k (two p q)) true ∧ hasB (two p q) p.f0 p.f1 = true ∧ hasB (two p q) q.f0 q.f1 = true ∧ ((two p q).length : Int) = (if q.f0 = p.f0 ∧ q.f1 = p.f1 then 1 else 2) := by
  rcases two_cases hp hq with ⟨e, d, n⟩ | ⟨e, n⟩ | ⟨e, d, n⟩ <;> rw [e]
  · refine ⟨rises_two p q hp hq d, by simp [hasB], by simp [hasB], ?_⟩
    rw [if_neg n]
    rfl
  · refine ⟨rises_one p hp, by simp [hasB], by simp [hasB, n.1, n.2], ?_⟩
    rw [if_pos n]
    rfl
  · refine ⟨rises_two q p hq hp d, by simp [hasB], by simp [hasB], ?_⟩
    rw [if_neg n]
    rfl
/-! wTurns -/
theorem wTurns_ev (l : List S23) (h : l.length ≤ 1000000) : Ev (fun k => laws_wTurns.f k l l) true := by
  unfold laws_wTurns.f
  refine ev_t rfl ?_
  exact scan_gen (g := fun i k => laws_wTurns.l0 k l l (l.length : Int) i) (n := l.length) (fun i a b ih => by
    refine ev_succ ?_
    simp only [laws_wTurns.l0]
    refine ev_t b (ev_t a (ev_t b (ev_t b (ev_f (by simp) ?_))))
    rw [w64 (by omega) (by omega)]
    exact ih) (by
    refine ev_one fun k => ?_
    simp only [laws_wTurns.l0]
    rw [if_neg (by omega)]) 0 (by omega) (by omega)

/-! the law -/
theorem mirP_ok (a b c d : Int) : (mirP a b c d).2.2.2.2 = seenB a b c d := by
  unfold mirP
  by_cases z : seenB a b c d = true
  · rw [if_pos z, z]
  · rw [if_neg z]
    rw [Bool.not_eq_true] at z
    exact z.symm
theorem d11 (a b c d x y : Int) : Ev (fun z => laws_FnDialsTurnedOfAll.j11 z (tsP a b c d x y).2.2.2.2 a b c d x y (tsP a b c d x y).1 (tsP a b c d x y).2.1 (tsP a b c d x y).2.2.1 (tsP a b c d x y).2.2.2.1) true := by
  refine ev_succ ?_
  simp only [laws_FnDialsTurnedOfAll.j11]
  by_cases z : seenB a b c d = true ∧ turnB x y = true
  · by_cases v : addD a b x y ≤ 1000000 ∧ addD c d x y ≤ 1000000
    · have t := seenB_of z.1
      have t1 := turnB_of t.1
      have t2 := turnB_of t.2
      have u := turnB_of z.2
      have e : tsP a b c d x y = (addN a b x y, addD a b x y, addN c d x y, addD c d x y, true) := by
        unfold tsP
        rw [if_pos z, if_pos v]
      have b1 := back_eq t.1 z.2
      have b2 := back_eq t.2 z.2
      have s1 : turnB (addN a b x y) (addD a b x y) = true := turn_B (by have := den_bd t.1 z.2; omega) v.1
      have s2 : turnB (addN c d x y) (addD c d x y) = true := turn_B (by have := den_bd t.2 z.2; omega) v.2
      have bk := TurnSeen_impl (addN a b x y) (addD a b x y) (addN c d x y) (addD c d x y) (turnN (x * -1) y) (turnD (x * -1) y)
      unfold tsP at bk
      rw [if_pos ⟨by unfold seenB; rw [s1, s2]; rfl, tm_B z.2⟩, b1.1, b1.2, b2.1, b2.2, if_pos ⟨t1.2.1, t2.2.1⟩] at bk
      rw [e]
      exact ev_t rfl (Ev.bind (MirrorTurn_ev z.2) (ev_t rfl (Ev.bind bk (ev_t rfl (ev_f (by simp) (ev_now _))))))
    · have e : tsP a b c d x y = (0, 0, 0, 0, false) := by
        unfold tsP
        rw [if_pos z, if_neg v]
      rw [e]
      exact ev_f (by simp) (ev_now _)
  · have e : tsP a b c d x y = (0, 0, 0, 0, false) := by
      unfold tsP
      rw [if_neg z]
    rw [e]
    exact ev_f (by simp) (ev_now _)
theorem d10 (m0 m1 m2 m3 a b c d x y : Int) : Ev (fun z => laws_FnDialsTurnedOfAll.j10 z (mirP m0 m1 m2 m3).2.2.2.2 (tsP a b c d x y).2.2.2.2 m0 m1 m2 m3 a b c d x y (mirP m0 m1 m2 m3).1 (mirP m0 m1 m2 m3).2.1 (mirP m0 m1 m2 m3).2.2.1 (mirP m0 m1 m2 m3).2.2.2.1 (tsP a b c d x y).1 (tsP a b c d x y).2.1 (tsP a b c d x y).2.2.1 (tsP a b c d x y).2.2.2.1) true := by
  refine ev_succ ?_
  simp only [laws_FnDialsTurnedOfAll.j10]
  by_cases z : seenB m0 m1 m2 m3 = true
  · have t := seenB_of z
    have e : mirP m0 m1 m2 m3 = (turnN (m0 * -1) m1, turnD (m0 * -1) m1, turnN (m2 * -1) m3, turnD (m2 * -1) m3, true) := by
      unfold mirP
      rw [if_pos z]
    have mm := MirrorSeen_impl (turnN (m0 * -1) m1) (turnD (m0 * -1) m1) (turnN (m2 * -1) m3) (turnD (m2 * -1) m3)
    have r1 := mir_mir t.1
    have r2 := mir_mir t.2
    have sn : seenB (turnN (m0 * -1) m1) (turnD (m0 * -1) m1) (turnN (m2 * -1) m3) (turnD (m2 * -1) m3) = true := by
      unfold seenB
      rw [tm_B t.1, tm_B t.2]
      rfl
    have em : mirP (turnN (m0 * -1) m1) (turnD (m0 * -1) m1) (turnN (m2 * -1) m3) (turnD (m2 * -1) m3) = (m0, m1, m2, m3, true) := by
      conv => lhs; unfold mirP
      rw [if_pos sn, r1.1, r1.2, r2.1, r2.2]
    rw [em] at mm
    rw [e]
    exact ev_t rfl (Ev.bind mm (ev_t rfl (ev_f (by simp) (d11 _ _ _ _ _ _))))
  · have e : mirP m0 m1 m2 m3 = (0, 0, 0, 0, false) := by
      unfold mirP
      rw [if_neg z]
    rw [e]
    exact ev_f (by simp) (d11 _ _ _ _ _ _)
theorem glass_rises {h a b c d : Int} (z : askB h a b c d = true) : Ev (fun k => laws_wRises.f k (glassP h a b c d).1) true ∧ (glassP h a b c d).1.length ≤ 2 := by
  have t := askB_of z
  unfold glassP
  rw [if_pos z]
  by_cases y : trueB h a b c d = true
  · rw [if_pos y]
    have tf := two_facts (p := ⟨a, b⟩) (q := ⟨turnN (a * -1) b, turnD (a * -1) b⟩) t.2.2.1 (tm_B t.2.2.1)
    refine ⟨tf.1, ?_⟩
    have := tf.2.2.2
    dsimp only at this ⊢
    split at this <;> omega
  · rw [if_neg y]
    exact ⟨wRises_ev [] (by simp) (fun j a b => by simp only [List.length_nil] at b; omega) (fun j a b => by simp only [List.length_nil] at b; omega), by simp⟩
theorem two_at {p q : S23} (hp : turnB p.f0 p.f1 = true) (hq : turnB q.f0 q.f1 = true) (j : Int) (h0 : 0 ≤ j) (h1 : j < ((two p q).length : Int)) : rd_T23 (two p q) j = p ∨ rd_T23 (two p q) j = q := by
  rcases two_cases hp hq with ⟨e, d, n⟩ | ⟨e, n⟩ | ⟨e, d, n⟩ <;> rw [e] at h1 ⊢ <;> simp only [List.length_cons, List.length_nil] at h1
  · rcases (by omega : j = 0 ∨ j = 1) with rfl | rfl
    · exact Or.inl rfl
    · exact Or.inr rfl
  · obtain rfl : j = 0 := by omega
    exact Or.inl rfl
  · rcases (by omega : j = 0 ∨ j = 1) with rfl | rfl
    · exact Or.inr rfl
    · exact Or.inl rfl
theorem d7 (k q0 q1 q2 q3 m0 m1 m2 m3 a b c d x y : Int) : Ev (fun z => laws_FnDialsTurnedOfAll.j7 z k (glassP k q0 q1 q2 q3).1 (glassP k q0 q1 q2 q3).2 (mirP m0 m1 m2 m3).2.2.2.2 (tsP a b c d x y).2.2.2.2 q0 q1 q2 q3 m0 m1 m2 m3 a b c d x y (mirP m0 m1 m2 m3).1 (mirP m0 m1 m2 m3).2.1 (mirP m0 m1 m2 m3).2.2.1 (mirP m0 m1 m2 m3).2.2.2.1 (tsP a b c d x y).1 (tsP a b c d x y).2.1 (tsP a b c d x y).2.2.1 (tsP a b c d x y).2.2.2.1) true := by
  refine ev_succ ?_
  simp only [laws_FnDialsTurnedOfAll.j7]
  by_cases z : askB k q0 q1 q2 q3 = true
  · have t := askB_of z
    have z2 : (glassP k q0 q1 q2 q3).2 = true := by
      unfold glassP
      rw [if_pos z]
      split <;> rfl
    have sn : seenB q0 q1 q2 q3 = true := by
      unfold seenB
      rw [t.2.2.1, t.2.2.2]
      rfl
    have mi := MirrorSeen_impl q0 q1 q2 q3
    have em : mirP q0 q1 q2 q3 = (turnN (q0 * -1) q1, turnD (q0 * -1) q1, turnN (q2 * -1) q3, turnD (q2 * -1) q3, true) := by
      unfold mirP
      rw [if_pos sn]
    rw [em] at mi
    have az : askB k (turnN (q0 * -1) q1) (turnD (q0 * -1) q1) (turnN (q2 * -1) q3) (turnD (q2 * -1) q3) = true := by
      unfold askB seenB
      rw [decide_eq_true ⟨t.1, t.2.1⟩, tm_B t.2.2.1, tm_B t.2.2.2]
      rfl
    have gl := Glass_impl k (turnN (q0 * -1) q1) (turnD (q0 * -1) q1) (turnN (q2 * -1) q3) (turnD (q2 * -1) q3)
    have g2 : (glassP k (turnN (q0 * -1) q1) (turnD (q0 * -1) q1) (turnN (q2 * -1) q3) (turnD (q2 * -1) q3)).2 = true := by
      unfold glassP
      rw [if_pos az]
      split <;> rfl
    have mt := mirror_trueB (h := k) t.2.2.1 t.2.2.2
    have mm := mir_mir t.2.2.1
    have len : ((glassP k (turnN (q0 * -1) q1) (turnD (q0 * -1) q1) (turnN (q2 * -1) q3) (turnD (q2 * -1) q3)).1.length : Int) = ((glassP k q0 q1 q2 q3).1.length : Int) := by
      unfold glassP
      rw [if_pos az, if_pos z, mt]
      by_cases y : trueB k q0 q1 q2 q3 = true
      · rw [if_pos y, if_pos y, mm.1, mm.2]
        have f1 := (two_facts (p := ⟨turnN (q0 * -1) q1, turnD (q0 * -1) q1⟩) (q := ⟨q0, q1⟩) (tm_B t.2.2.1) t.2.2.1).2.2.2
        have f2 := (two_facts (p := ⟨q0, q1⟩) (q := ⟨turnN (q0 * -1) q1, turnD (q0 * -1) q1⟩) t.2.2.1 (tm_B t.2.2.1)).2.2.2
        dsimp only at f1 f2 ⊢
        rw [f1, f2]
        by_cases s : q0 = turnN (q0 * -1) q1 ∧ q1 = turnD (q0 * -1) q1
        · rw [if_pos s, if_pos ⟨s.1.symm, s.2.symm⟩]
        · rw [if_neg s, if_neg (fun w => s ⟨w.1.symm, w.2.symm⟩)]
      · rw [if_neg y, if_neg y]
    obtain ⟨rise, l2⟩ := glass_rises z
    refine ev_t z2 (Ev.bind mi (Ev.bind gl (ev_t (by first | rfl | trivial) (ev_t g2 (ev_t len (ev_f (by omega) (Ev.bind rise ?_)))))))
    refine ev_succ ?_
    simp only [laws_FnDialsTurnedOfAll.j8]
    refine ev_f (by simp) ?_
    refine scan_gen (g := fun i w => laws_FnDialsTurnedOfAll.l2 w (glassP k q0 q1 q2 q3).1 (mirP m0 m1 m2 m3).2.2.2.2 (tsP a b c d x y).2.2.2.2 (glassP k q0 q1 q2 q3).1 ((glassP k q0 q1 q2 q3).1.length : Int) i m0 m1 m2 m3 a b c d x y (mirP m0 m1 m2 m3).1 (mirP m0 m1 m2 m3).2.1 (mirP m0 m1 m2 m3).2.2.1 (mirP m0 m1 m2 m3).2.2.2.1 (tsP a b c d x y).1 (tsP a b c d x y).2.1 (tsP a b c d x y).2.2.1 (tsP a b c d x y).2.2.2.1) (n := ((glassP k q0 q1 q2 q3).1.length : Int)) (fun i ia ib ih => ?_) ?_ 0 (by omega) (by omega)
    · have f : turnB (rd_T23 (glassP k q0 q1 q2 q3).1 i).f0 (rd_T23 (glassP k q0 q1 q2 q3).1 i).f1 = true ∧ hasB (glassP k q0 q1 q2 q3).1 (turnN ((rd_T23 (glassP k q0 q1 q2 q3).1 i).f0 * -1) (rd_T23 (glassP k q0 q1 q2 q3).1 i).f1) (turnD ((rd_T23 (glassP k q0 q1 q2 q3).1 i).f0 * -1) (rd_T23 (glassP k q0 q1 q2 q3).1 i).f1) = true := by
        by_cases y : trueB k q0 q1 q2 q3 = true
        · have eg : (glassP k q0 q1 q2 q3).1 = two ⟨q0, q1⟩ ⟨turnN (q0 * -1) q1, turnD (q0 * -1) q1⟩ := by
            unfold glassP
            rw [if_pos z, if_pos y]
          rw [eg] at ib ⊢
          have tf := two_facts (p := ⟨q0, q1⟩) (q := ⟨turnN (q0 * -1) q1, turnD (q0 * -1) q1⟩) t.2.2.1 (tm_B t.2.2.1)
          rcases two_at (p := ⟨q0, q1⟩) (q := ⟨turnN (q0 * -1) q1, turnD (q0 * -1) q1⟩) t.2.2.1 (tm_B t.2.2.1) i ia ib with e | e <;> rw [e]
          · exact ⟨t.2.2.1, tf.2.2.1⟩
          · refine ⟨tm_B t.2.2.1, ?_⟩
            dsimp only
            rw [mm.1, mm.2]
            exact tf.2.1
        · have eg : (glassP k q0 q1 q2 q3).1 = [] := by
            unfold glassP
            rw [if_pos z, if_neg y]
          rw [eg] at ib
          simp only [List.length_nil] at ib
          omega
      have wh := wHas_ev (glassP k q0 q1 q2 q3).1 (turnN ((rd_T23 (glassP k q0 q1 q2 q3).1 i).f0 * -1) (rd_T23 (glassP k q0 q1 q2 q3).1 i).f1) (turnD ((rd_T23 (glassP k q0 q1 q2 q3).1 i).f0 * -1) (rd_T23 (glassP k q0 q1 q2 q3).1 i).f1) (by omega)
      rw [f.2] at wh
      refine ev_succ ?_
      simp only [laws_FnDialsTurnedOfAll.l2]
      rw [w64 (x := i + 1) (by omega) (by omega)]
      exact ev_t ib (ev_t ia (ev_t ib (Ev.bind (MirrorTurn_ev f.1) (ev_t (by first | rfl | trivial) (Ev.bind wh (ev_t (by first | rfl | trivial) ih))))))
    · refine ev_succ ?_
      simp only [laws_FnDialsTurnedOfAll.l2]
      exact ev_f (by omega) (d10 _ _ _ _ _ _ _ _ _ _)
  · have z2 : (glassP k q0 q1 q2 q3).2 = false := by
      unfold glassP
      rw [if_neg z]
    refine ev_f (by rw [z2]; simp) (d10 _ _ _ _ _ _ _ _ _ _)
theorem anglesP_of {h n d : Int} (e : (anglesP h n d).2 = true) : allT (rootP n d (h - 1)) = true ∧ (anglesP h n d).1 = rootP n d (h - 1) := by
  unfold anglesP at e ⊢
  by_cases y : allT (rootP n d (h - 1)) = true
  · rw [if_pos y]
    exact ⟨y, rfl⟩
  · rw [if_neg y] at e
    cases e
theorem anglesP_len {h n d : Int} (z1 : 2 ≤ h) (z2 : h ≤ 24) : (anglesP h n d).1.length ≤ 23 := by
  unfold anglesP
  split
  · show (rootP n d (h - 1)).length ≤ 23
    rw [rootP_len]
    omega
  · simp
theorem d3 (g an ad k q0 q1 q2 q3 m0 m1 m2 m3 a b c d x y : Int) : Ev (fun z => laws_FnDialsTurnedOfAll.j3 z g k an ad q0 q1 q2 q3 m0 m1 m2 m3 a b c d x y) true := by
  have wl : (waP g an ad).1.length ≤ 1000000 := by
    unfold waP
    by_cases z : dialB g an ad = true
    · have t := dialB_of z
      rw [if_pos z]
      have := anglesP_len (n := an) (d := ad) t.1 t.2.1
      omega
    · rw [if_neg z]
      simp
  have gl : (glassP k q0 q1 q2 q3).1.length ≤ 1000000 := by
    by_cases z : askB k q0 q1 q2 q3 = true
    · have := (glass_rises z).2
      omega
    · unfold glassP
      rw [if_neg z]
      simp
  refine ev_succ ?_
  simp only [laws_FnDialsTurnedOfAll.j3]
  refine Ev.bind (WithAngle_impl g an ad) (Ev.bind (WithAngle_spec g an ad) (Ev.bind (Glass_impl k q0 q1 q2 q3) (Ev.bind (Glass_spec k q0 q1 q2 q3) (Ev.bind (MirrorSeen_impl m0 m1 m2 m3) (Ev.bind (MirrorSeen_spec m0 m1 m2 m3) (Ev.bind (TurnSeen_impl a b c d x y) (Ev.bind (TurnSeen_spec a b c d x y) (ev_f (by simp) (Ev.bind (wTurns_ev _ wl) (ev_t (by first | rfl | trivial) (ev_f (by simp) (Ev.bind (wTurns_ev _ gl) (ev_t (by first | rfl | trivial) (ev_f (by simp) (ev_f (by simp) (ev_f (by simp) (ev_f (by simp) (Ev.bind (IsSeen_ev m0 m1 m2 m3) ?_))))))))))))))))))
  have mo : ((mirP m0 m1 m2 m3).2.2.2.2 != seenB m0 m1 m2 m3) = false := by rw [mirP_ok]; simp
  rw [mo]
  refine ev_succ ?_
  simp only [laws_FnDialsTurnedOfAll.j4]
  refine ev_f (by simp) ?_
  by_cases w : (waP g an ad).2 = true
  · have z : dialB g an ad = true := by
      cases zz : dialB g an ad
      · unfold waP at w
        rw [if_neg (by rw [zz]; simp)] at w
        cases w
      · rfl
    have t := dialB_of z
    have u := turnB_of t.2.2
    have ew : waP g an ad = anglesP g an ad := by
      unfold waP
      rw [if_pos z]
    rw [ew] at w ⊢
    obtain ⟨al, el⟩ := anglesP_of w
    rw [el]
    have rl := rootP_len an ad (g - 1)
    have rise := root_rise (n := an) (d := ad) (k := g - 1) (by omega) (by omega) (by omega) (by omega) al
    refine ev_t w (ev_t ?_ (Ev.bind rise ?_))
    · rw [w64 (x := g - 1) (by omega) (by omega)]
      omega
    refine ev_succ ?_
    simp only [laws_FnDialsTurnedOfAll.j5]
    refine ev_f (by simp) ?_
    refine scan_gen (g := fun i w => laws_FnDialsTurnedOfAll.l1 w g k (glassP k q0 q1 q2 q3).1 (glassP k q0 q1 q2 q3).2 (mirP m0 m1 m2 m3).2.2.2.2 (tsP a b c d x y).2.2.2.2 (rootP an ad (g - 1)) ((rootP an ad (g - 1)).length : Int) i an ad q0 q1 q2 q3 m0 m1 m2 m3 a b c d x y (mirP m0 m1 m2 m3).1 (mirP m0 m1 m2 m3).2.1 (mirP m0 m1 m2 m3).2.2.1 (mirP m0 m1 m2 m3).2.2.2.1 (tsP a b c d x y).1 (tsP a b c d x y).2.1 (tsP a b c d x y).2.2.1 (tsP a b c d x y).2.2.2.1) (n := ((rootP an ad (g - 1)).length : Int)) (fun i ia ib ih => ?_) ?_ 0 (by omega) (by omega)
    · have mt := allT_mem al (mem_root (n := an) (d := ad) (k := g - 1) i ia (by omega))
      have db : dialB g (turnN (an + i * ad) (ad * (g - 1))) (turnD (an + i * ad) (ad * (g - 1))) = true := by
        unfold dialB
        rw [decide_eq_true ⟨t.1, t.2.1⟩, mt]
        rfl
      have ao := AngleOf_ev db
      have mt1 := turnB_of mt
      have ae := eqv_turn mt1.1 t.2.2 (root_eqv (n := an) (d := ad) (k := g - 1) (by omega) (by omega) i)
      dsimp only at ae mt1
      rw [ae.1, ae.2] at ao
      refine ev_succ ?_
      simp only [laws_FnDialsTurnedOfAll.l1]
      rw [root_at i ia (by omega), w64 (x := i + 1) (by omega) (by omega)]
      exact ev_t ib (ev_t ia (ev_t ib (Ev.bind ao (ev_t (by first | rfl | trivial) (ev_f (by simp) ih)))))
    · refine ev_succ ?_
      simp only [laws_FnDialsTurnedOfAll.l1]
      exact ev_f (by omega) (d7 _ _ _ _ _ _ _ _ _ _ _ _ _ _ _)
  · exact ev_f w (d7 _ _ _ _ _ _ _ _ _ _ _ _ _ _ _)
theorem law (a0 a1_0 a1_1 a1_2 a1_3 a2 a3_0 a3_1 a4 a5_0 a5_1 a5_2 a5_3 a6_0 a6_1 a6_2 a6_3 a7_0 a7_1 a7_2 a7_3 a8_0 a8_1 : Int) (w0 : (Lit.int .i64 a0).wf = true) (w1_0 : (Lit.int .i64 a1_0).wf = true) (w1_1 : (Lit.int .i64 a1_1).wf = true) (w1_2 : (Lit.int .i64 a1_2).wf = true) (w1_3 : (Lit.int .i64 a1_3).wf = true) (w2 : (Lit.int .i64 a2).wf = true) (w3_0 : (Lit.int .i64 a3_0).wf = true) (w3_1 : (Lit.int .i64 a3_1).wf = true) (w4 : (Lit.int .i64 a4).wf = true)
    (w5_0 : (Lit.int .i64 a5_0).wf = true) (w5_1 : (Lit.int .i64 a5_1).wf = true) (w5_2 : (Lit.int .i64 a5_2).wf = true) (w5_3 : (Lit.int .i64 a5_3).wf = true) (w6_0 : (Lit.int .i64 a6_0).wf = true) (w6_1 : (Lit.int .i64 a6_1).wf = true) (w6_2 : (Lit.int .i64 a6_2).wf = true) (w6_3 : (Lit.int .i64 a6_3).wf = true) (w7_0 : (Lit.int .i64 a7_0).wf = true) (w7_1 : (Lit.int .i64 a7_1).wf = true) (w7_2 : (Lit.int .i64 a7_2).wf = true) (w7_3 : (Lit.int .i64 a7_3).wf = true) (w8_0 : (Lit.int .i64 a8_0).wf = true) (w8_1 : (Lit.int .i64 a8_1).wf = true) :
    ∃ k, laws_FnDialsTurnedOfAll.f k a0 a1_0 a1_1 a1_2 a1_3 a2 a3_0 a3_1 a4 a5_0 a5_1 a5_2 a5_3 a6_0 a6_1 a6_2 a6_3 a7_0 a7_1 a7_2 a7_3 a8_0 a8_1 = some true := by
  refine Ev.rounds (g := fun k => laws_FnDialsTurnedOfAll.f k a0 a1_0 a1_1 a1_2 a1_3 a2 a3_0 a3_1 a4 a5_0 a5_1 a5_2 a5_3 a6_0 a6_1 a6_2 a6_3 a7_0 a7_1 a7_2 a7_3 a8_0 a8_1) ?_
  unfold laws_FnDialsTurnedOfAll.f
  have tl : (ttP a0 a1_0 a1_1 a1_2 a1_3).1.length ≤ 23 := by
    unfold ttP
    by_cases z : askB a0 a1_0 a1_1 a1_2 a1_3 = true
    · have t := askB_of z
      rw [if_pos z]
      exact anglesP_len t.1 t.2.1
    · rw [if_neg z]
      simp
  have dl : (todP a0 a1_0 a1_1 a1_2 a1_3).1.length ≤ 23 := by
    unfold todP allP' subL
    split
    · split
      · rw [List.length_map]
        exact tl
      · simp
    · simp
  refine Ev.bind (TimesTurned_impl a0 a1_0 a1_1 a1_2 a1_3) (Ev.bind (TimesTurned_spec a0 a1_0 a1_1 a1_2 a1_3) (Ev.bind (TurnsOfDial_impl a0 a1_0 a1_1 a1_2 a1_3) (Ev.bind (TurnsOfDial_spec a0 a1_0 a1_1 a1_2 a1_3) (ev_f (by simp) (Ev.bind (wTurns_ev _ (by omega)) (ev_t (by first | rfl | trivial) (ev_f (by simp) (Ev.bind (wTurns_ev _ (by omega)) (ev_t (by first | rfl | trivial) ?_)))))))))
  have d3' := d3 a2 a3_0 a3_1 a4 a5_0 a5_1 a5_2 a5_3 a6_0 a6_1 a6_2 a6_3 a7_0 a7_1 a7_2 a7_3 a8_0 a8_1
  by_cases tt : (ttP a0 a1_0 a1_1 a1_2 a1_3).2 = true
  · obtain ⟨z, al, el⟩ := ttP_of tt
    have t := askB_of z
    have bd := ap_bd t.2.2.1 t.2.2.2
    have rl := rootP_len (apN a1_0 a1_1 a1_2 a1_3) (apD a1_0 a1_1 a1_2 a1_3) (a0 - 1)
    have rise := root_rise (n := apN a1_0 a1_1 a1_2 a1_3) (d := apD a1_0 a1_1 a1_2 a1_3) (k := a0 - 1) bd.1 bd.2.1 (by omega) (by omega) al
    have ln : ((rootP (apN a1_0 a1_1 a1_2 a1_3) (apD a1_0 a1_1 a1_2 a1_3) (a0 - 1)).length : Int) = wrap64 (a0 - 1) := by
      rw [w64 (x := a0 - 1) (by omega) (by omega)]
      omega
    rw [tt, el]
    by_cases dd : (todP a0 a1_0 a1_1 a1_2 a1_3).2 = true
    · have ed : allT (subL a1_0 a1_1 (rootP (apN a1_0 a1_1 a1_2 a1_3) (apD a1_0 a1_1 a1_2 a1_3) (a0 - 1))) = true ∧ (todP a0 a1_0 a1_1 a1_2 a1_3).1 = subL a1_0 a1_1 (rootP (apN a1_0 a1_1 a1_2 a1_3) (apD a1_0 a1_1 a1_2 a1_3) (a0 - 1)) := by
        unfold todP allP' at dd ⊢
        rw [if_pos tt, el] at dd ⊢
        by_cases s : allT (subL a1_0 a1_1 (rootP (apN a1_0 a1_1 a1_2 a1_3) (apD a1_0 a1_1 a1_2 a1_3) (a0 - 1))) = true
        · rw [if_pos s]
          exact ⟨s, rfl⟩
        · rw [if_neg s] at dd
          cases dd
      rw [dd, ed.2]
      have sl : (subL a1_0 a1_1 (rootP (apN a1_0 a1_1 a1_2 a1_3) (apD a1_0 a1_1 a1_2 a1_3) (a0 - 1))).length = (rootP (apN a1_0 a1_1 a1_2 a1_3) (apD a1_0 a1_1 a1_2 a1_3) (a0 - 1)).length := List.length_map _
      refine ev_t (by first | rfl | trivial) (ev_succ ?_)
      simp only [laws_FnDialsTurnedOfAll.j0]
      refine ev_f (by simp) (ev_t (by first | rfl | trivial) (ev_t ln (Ev.bind rise (ev_succ ?_))))
      simp only [laws_FnDialsTurnedOfAll.j1]
      refine ev_f (by simp) (ev_t (by first | rfl | trivial) ?_)
      refine scan_gen (g := fun i w => laws_FnDialsTurnedOfAll.l0 w a0 a2 a4 (rootP (apN a1_0 a1_1 a1_2 a1_3) (apD a1_0 a1_1 a1_2 a1_3) (a0 - 1)) (subL a1_0 a1_1 (rootP (apN a1_0 a1_1 a1_2 a1_3) (apD a1_0 a1_1 a1_2 a1_3) (a0 - 1))) (rootP (apN a1_0 a1_1 a1_2 a1_3) (apD a1_0 a1_1 a1_2 a1_3) (a0 - 1)) ((rootP (apN a1_0 a1_1 a1_2 a1_3) (apD a1_0 a1_1 a1_2 a1_3) (a0 - 1)).length : Int) i a1_0 a1_1 a1_2 a1_3 a3_0 a3_1 a5_0 a5_1 a5_2 a5_3 a6_0 a6_1 a6_2 a6_3 a7_0 a7_1 a7_2 a7_3 a8_0 a8_1) (n := ((rootP (apN a1_0 a1_1 a1_2 a1_3) (apD a1_0 a1_1 a1_2 a1_3) (a0 - 1)).length : Int)) (fun i ia ib ih => ?_) ?_ 0 (by omega) (by omega)
      · have mt := allT_mem al (mem_root (n := apN a1_0 a1_1 a1_2 a1_3) (d := apD a1_0 a1_1 a1_2 a1_3) (k := a0 - 1) i ia (by omega))
        have ra := root_at (n := apN a1_0 a1_1 a1_2 a1_3) (d := apD a1_0 a1_1 a1_2 a1_3) (k := a0 - 1) i ia (by omega)
        have rs : rd_T23 (subL a1_0 a1_1 (rootP (apN a1_0 a1_1 a1_2 a1_3) (apD a1_0 a1_1 a1_2 a1_3) (a0 - 1))) i = subT a1_0 a1_1 (rd_T23 (rootP (apN a1_0 a1_1 a1_2 a1_3) (apD a1_0 a1_1 a1_2 a1_3) (a0 - 1)) i) := by
          have hi : i.toNat < (rootP (apN a1_0 a1_1 a1_2 a1_3) (apD a1_0 a1_1 a1_2 a1_3) (a0 - 1)).length := by omega
          have e1 := rdT_get (rootP (apN a1_0 a1_1 a1_2 a1_3) (apD a1_0 a1_1 a1_2 a1_3) (a0 - 1)) i.toNat hi
          have e2 := rdT_get (subL a1_0 a1_1 (rootP (apN a1_0 a1_1 a1_2 a1_3) (apD a1_0 a1_1 a1_2 a1_3) (a0 - 1))) i.toNat (by omega)
          rw [show ((i.toNat : Nat) : Int) = i by omega] at e1 e2
          rw [e1, e2]
          unfold subL
          exact List.getElem_map _
        have ms := allT_mem ed.1 (show subT a1_0 a1_1 ⟨turnN (apN a1_0 a1_1 a1_2 a1_3 + i * apD a1_0 a1_1 a1_2 a1_3) (apD a1_0 a1_1 a1_2 a1_3 * (a0 - 1)), turnD (apN a1_0 a1_1 a1_2 a1_3 + i * apD a1_0 a1_1 a1_2 a1_3) (apD a1_0 a1_1 a1_2 a1_3 * (a0 - 1))⟩ ∈ subL a1_0 a1_1 (rootP (apN a1_0 a1_1 a1_2 a1_3) (apD a1_0 a1_1 a1_2 a1_3) (a0 - 1)) from List.mem_map_of_mem (mem_root i ia (by omega)))
        have mv := moved (i := i) t.2.2.1 t.2.2.2 t.1 _ _ mt rfl rfl
        have db : dialB a0 (turnN (apN a1_0 a1_1 a1_2 a1_3 + i * apD a1_0 a1_1 a1_2 a1_3) (apD a1_0 a1_1 a1_2 a1_3 * (a0 - 1))) (turnD (apN a1_0 a1_1 a1_2 a1_3 + i * apD a1_0 a1_1 a1_2 a1_3) (apD a1_0 a1_1 a1_2 a1_3 * (a0 - 1))) = true := by
          unfold dialB
          rw [decide_eq_true ⟨t.1, t.2.1⟩, mt]
          rfl
        have so := SeenOf_impl a0 (turnN (apN a1_0 a1_1 a1_2 a1_3 + i * apD a1_0 a1_1 a1_2 a1_3) (apD a1_0 a1_1 a1_2 a1_3 * (a0 - 1))) (turnD (apN a1_0 a1_1 a1_2 a1_3 + i * apD a1_0 a1_1 a1_2 a1_3) (apD a1_0 a1_1 a1_2 a1_3 * (a0 - 1)))
        unfold seenP at so
        rw [if_pos db] at so
        refine ev_succ ?_
        simp only [laws_FnDialsTurnedOfAll.l0]
        rw [rs, ra, w64 (x := i + 1) (by omega) (by omega)]
        dsimp only at mt
        generalize turnN (apN a1_0 a1_1 a1_2 a1_3 + i * apD a1_0 a1_1 a1_2 a1_3) (apD a1_0 a1_1 a1_2 a1_3 * (a0 - 1)) = x at *
        generalize turnD (apN a1_0 a1_1 a1_2 a1_3 + i * apD a1_0 a1_1 a1_2 a1_3) (apD a1_0 a1_1 a1_2 a1_3 * (a0 - 1)) = y at *
        have t1 := turnB_of t.2.2.1
        have t2 := turnB_of t.2.2.2
        have ts := TurnSeen_impl x y (turnN (x * a0) y) (turnD (x * a0) y) (subT a1_0 a1_1 ⟨x, y⟩).f0 (subT a1_0 a1_1 ⟨x, y⟩).f1
        unfold tsP at ts
        rw [if_pos ⟨by unfold seenB; rw [mt, tm_B mt]; rfl, ms⟩, mv.1, mv.2.1, mv.2.2.1, mv.2.2.2, if_pos ⟨t1.2.1, t2.2.1⟩] at ts
        exact ev_t ib (ev_t ia (ev_t ib (Ev.bind so (ev_t (by omega) (Ev.bind ts (ev_t (by first | rfl | trivial) (ev_t (by first | rfl | trivial) (ev_f (by simp) ih))))))))
      · have it := IsTrueSeen_impl a0 a1_0 a1_1 a1_2 a1_3
        unfold isTrueP at it
        rw [z, Bool.true_and] at it
        refine ev_succ ?_
        simp only [laws_FnDialsTurnedOfAll.l0]
        refine ev_f (by omega) (Ev.bind it (ev_t (by first | rfl | trivial) ?_))
        by_cases tr : trueB a0 a1_0 a1_1 a1_2 a1_3 = true
        · have wh := wHas_ev (rootP (apN a1_0 a1_1 a1_2 a1_3) (apD a1_0 a1_1 a1_2 a1_3) (a0 - 1)) a1_0 a1_1 (by omega)
          rw [own_time t.2.2.1 t.2.2.2 t.1 tr] at wh
          exact ev_t tr (Ev.bind wh (ev_t (by first | rfl | trivial) d3'))
        · exact ev_f tr d3'
    · rw [Bool.not_eq_true] at dd
      rw [dd]
      refine ev_f (by simp) (ev_succ ?_)
      simp only [laws_FnDialsTurnedOfAll.j0]
      refine ev_f (by simp) (ev_t (by first | rfl | trivial) (ev_t ln (Ev.bind rise (ev_succ ?_))))
      simp only [laws_FnDialsTurnedOfAll.j1]
      exact ev_f (by simp) (ev_f (by simp) d3')
  · have dd : (todP a0 a1_0 a1_1 a1_2 a1_3).2 = false := by
      unfold todP
      rw [if_neg tt]
    rw [Bool.not_eq_true] at tt
    rw [dd, tt]
    refine ev_f (by simp) (ev_succ ?_)
    simp only [laws_FnDialsTurnedOfAll.j0]
    refine ev_f (by simp) (ev_f (by simp) (ev_succ ?_))
    simp only [laws_FnDialsTurnedOfAll.j1]
    exact ev_f (by simp) (ev_f (by simp) d3')

end Go.Proofs.Ytkfcaldjepmffaa.Pure.FnDialsTurnedOfAllWay
