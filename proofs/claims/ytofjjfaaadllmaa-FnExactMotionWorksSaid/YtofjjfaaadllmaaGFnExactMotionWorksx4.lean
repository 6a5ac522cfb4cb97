-- The marks of a law over rows of rows, and the law's walk.
import Derived.Test.YtofjjfaaadllmaaGFnExactMotionWorksx0
import Derived.Test.YtofjjfaaadllmaaGFnExactMotionWorksx1
import Derived.Test.YtofjjfaaadllmaaGFnExactMotionWorksx2
import Derived.Test.YtofjjfaaadllmaaGFnExactMotionWorksx3
namespace Go.Proofs.Ytofjjfaaadllmaa.GFnExactMotionWorks
open Go.RowKit Go.Proofs.YtofjjfaaadllmaaW.PrintWords Go.Proofs.YtofjjfaaadllmaaW.PrintLast Go.Proofs.YtofjjfaaadllmaaW.PrintMore
attribute [local go_sem] max2_int min2_int max_two min_two max_three min_three max_four min_four IntWalk.i64_left   -- for this text's walks alone
set_option linter.unusedVariables false
set_option linter.unusedSimpArgs false
theorem S_C {α : Type} {d : Kd α} {e n c base : Nat} {ok : Nat → Prop} {w : World} {A : Option Addr} {xs : List α} (h : Kd.S d e w base ok (.slice A n c) xs) : d.C w A xs.length xs := (Kd.S_reads' h).2.2
/-- Element i's row lent and, written, put back. -/
theorem S_lent {u : Value} {W : World} {base : Nat} {ok : Nat → Prop} {xs : List (List S23)} (h : Kd.S (Kd.slice 23 k23) 28 W base ok u xs) (i : Int) (h0 : 0 ≤ i) (h1 : i < (xs.length : Int)) :
    ∃ (ad : Addr) (A : Option Addr) (n c cap : Nat) (oki : Nat → Prop), u = .slice (some ad) n cap ∧ n = xs.length ∧ W.cell? (ad.add i.toNat) = some (.slice A (rd_L2 xs i).length c) ∧ (rd_L2 xs i).length ≤ c ∧ Kd.R k23 23 W base oki (.slice A (rd_L2 xs i).length c) (rd_L2 xs i) ∧
      ∀ (w' : World) (ys : List S23), Kd.R k23 23 w' base (fun k => oki k ∨ W.heap.size ≤ k) (.slice A (rd_L2 xs i).length c) ys → Kept W w' oki → Kd.S (Kd.slice 23 k23) 28 w' base ok u (xs.set i.toNat ys) := by
  have hn : 0 < xs.length := by omega
  obtain ⟨g, cap, rfl, _⟩ := Kd.S_form h hn
  have hlen := (Kd.S_reads' h).1
  obtain ⟨oki, c, hcl, hM, hcell, hoki, hH⟩ := Kd.S_lend h ([] : List S23) i h0 h1
  obtain ⟨v, rfl, hR⟩ := hM
  have hR0 : Kd.R k23 23 W base oki v (rd_L2 xs i) := hR
  obtain ⟨A, cc, hv, hcc, _⟩ := Kd.R_reads hR0
  have hcl0 := hcell 0 v rfl
  subst hv
  refine ⟨⟨g, 0, none⟩, A, xs.length, cc, cap, oki, rfl, hlen, ?_, hcc, hR0, fun w' ys hy hk => ?_⟩
  · have e1 : (⟨g, 0, none⟩ : Addr).add i.toNat = ⟨g, i.toNat * 1 + 0, none⟩ := by rw [add_plain]; simp
    rw [e1]
    exact hcl0
  · exact Kd.H_back (Kd.H_step hH (fun k _ hn hlt => hk.2 k hlt hn)) (okp := oki) (x' := ys) ⟨_, rfl, Kd.R_reok rfl hy (fun k e => hR0.1 k e)⟩ (fun _ hk => hk)
def laws_markPairSS.l0 : Nat → List (List S23) → Int → Int → Option (Int × List (List S23))
  | 0, _, _, _ => none
  | k + 1, xs, m, i => if i < (xs.length : Int) then (if 0 ≤ i then ((laws_markPairS.f k (rd_L2 xs i) m).bind fun t => laws_markPairSS.l0 k (xs.set i.toNat t.2) t.1 (wrap64 (i + 1))) else none) else some (m, xs)
def laws_markPairSS.f (k : Nat) (l0 : List (List S23)) (a1 : Int) : Option (Int × List (List S23)) := laws_markPairSS.l0 k l0 a1 0
theorem laws_markPairSS.mono_l : ∀ k xs m i, LeO (laws_markPairSS.l0 k xs m i) (laws_markPairSS.l0 (k + 1) xs m i)
  | 0, _, _, _ => fun r h => by simp [laws_markPairSS.l0] at h
  | k + 1, xs, m, i => by
    rw [laws_markPairSS.l0, laws_markPairSS.l0]
    exact LeO.ite (LeO.ite (LeO.bind (laws_markPairS.mono _ _ _) (fun _ => laws_markPairSS.mono_l k _ _ _)) (LeO.refl _)) (LeO.refl _)
theorem laws_markPairSS.mono : ∀ a0 a1 k, LeO (laws_markPairSS.f k a0 a1) (laws_markPairSS.f (k + 1) a0 a1) := fun a0 a1 k => laws_markPairSS.mono_l k a0 a1 0
set_option maxHeartbeats 8000000 in
set_option maxRecDepth 100000 in
theorem laws_markPairSS.calls (k : Nat) (ok : Nat → Prop) (A : Option Addr) (n c : Nat) (l0 : List (List S23)) (a1 : Int) (r1 : Int) (r2 : List (List S23)) (w0 w : World) (hB : Below w0.heap.size w0 w) (hn : n = l0.length) (ho : Kd.S (Kd.slice 23 k23) 28 w w0.heap.size ok (.slice A n c) l0) (h : laws_markPairSS.f k l0 a1 = some (r1, r2)) :
    Calls Try.prog 20 #[.slice A n c, .int .i64 a1] w fun e w' => e = .returned (.int .i64 r1) ∧ Kd.S (Kd.slice 23 k23) 28 w' w0.heap.size ok (.slice A n c) r2 ∧ Below w0.heap.size w0 w' := by
  have HB := Aside0.mk hB
  have HO := Aside0.mk ho
  have HN := Aside0.mk hn
  have H' : Aside0 (laws_markPairSS.l0 k l0 a1 0 = some (r1, r2)) := ⟨h⟩
  clear hB ho hn h
  go_enter Try.func20, Try.ntmps20
  go_wp2
  go_loopg [1, 5] k (fun kq v1 v5 w' => ∃ (m i : Int) (xs : List (List S23)), v1 = .int .i64 m ∧ v5 = .int .i64 i ∧ Aside0 (laws_markPairSS.l0 kq xs m i = some (r1, r2)) ∧ Aside0 (n = xs.length) ∧ Aside0 (Kd.S (Kd.slice 23 k23) 28 w' w0.heap.size ok (.slice A n c) xs) ∧ Aside0 (Below w0.heap.size w0 w'))
  case atStart => exact ⟨a1, 0, l0, rfl, rfl, H', HN, HO, HB⟩
  case round =>
    clear H' HN HO HB
    obtain ⟨m, i, xs, rfl, rfl, HA, HN, HO, HB⟩ := hrel
    cases gk with
    | zero => exact absurd HA.out (by simp [laws_markPairSS.l0])
    | succ k1 =>
      have H := HA.out
      clear HA
      simp only [laws_markPairSS.l0] at H
      by_cases c3 : i < (n : Int)
      · rw [if_pos (by rw [← HN.out]; exact c3)] at H
        have c3b : decide (i < (n : Int)) = true := decide_eq_true c3
        by_cases c4 : 0 ≤ i
        · rw [if_pos c4] at H
          obtain ⟨t, ht, H⟩ := Option.bind_eq_some_iff.mp H
          obtain ⟨ad, A1, n', c1, cap, oki, e0, e1, hx, hc1, hR, hback⟩ := S_lent HO.out i c4 (by rw [← HN.out]; exact c3)
          injection e0 with e0 e2 e3
          subst e0 e2 e3
          have HT := Aside0.mk ht
          have HR := Aside0.mk hR
          have HK := Aside0.mk hback
          have H' := Aside0.mk H
          have HI := Aside0.mk (And.intro c4 c3)
          clear ht hR hback H e1 hc1
          replace c4 := eq_true c4
          replace c3 := eq_true c3
          go_wp2_with (first | (go_at_call 15; (with_reducible refine (laws_markPairS.calls k1 oki _ _ m _ _ w0 _ HB.out HR.out HT.out).mono ?_); rintro e w2 ⟨rfl, hy, hb, hk⟩; have HS2 := Aside0.mk (HK.out w2 _ hy hk); have HB2 := Aside0.mk hb; clear hy hb hk))
          go_roundg k1
          case measure => omega
          case rel => exact ⟨_, _, _, rfl, rfl, H', ⟨by rw [List.length_set]; exact HN.out⟩, HS2, HB2⟩
        · rw [if_neg c4] at H
          cases H
      · rw [if_neg (by rw [← HN.out]; exact c3)] at H
        have c3b : decide (i < (n : Int)) = false := decide_eq_false c3
        clear c3
        simp only [Option.some.injEq, Prod.mk.injEq] at H
        obtain ⟨rfl, rfl⟩ := H
        go_wp2
        go_ret
        exact ⟨rfl, HO.out, HB.out⟩
theorem laws_markPairSS.len0 : ∀ (k : Nat) (xs : List (List S23)) (m i r1 : Int) (r2 : List (List S23)), laws_markPairSS.l0 k xs m i = some (r1, r2) → r2.length = xs.length
  | 0, _, _, _, _, _, h => by simp [laws_markPairSS.l0] at h
  | k + 1, xs, m, i, r1, r2, h => by
    simp only [laws_markPairSS.l0] at h
    split at h
    · split at h
      · obtain ⟨t, _, h⟩ := Option.bind_eq_some_iff.mp h
        rw [laws_markPairSS.len0 k _ _ _ _ _ h, List.length_set]
      · cases h
    · simp only [Option.some.injEq, Prod.mk.injEq] at h
      rw [h.2]
theorem laws_markPairSS.len (k : Nat) (xs : List (List S23)) (m r1 : Int) (r2 : List (List S23)) (h : laws_markPairSS.f k xs m = some (r1, r2)) : r2.length = xs.length := laws_markPairSS.len0 k xs m 0 r1 r2 h
def laws_FnExactMotionWorks.f (k : Nat) (a0 : Int) (a1 : Int) : Option Bool := (spec_MotionWorks.f k a0 a1).bind fun s => (impl_MotionWorks.f k a0 a1).bind fun i => (laws_eqPairSS.f k i.1 s.1).bind fun e => (laws_markPairSS.f k i.1 1).bind fun m => (laws_heldPairSS.f k m.2 1).bind fun h => if i.2 = s.2 ∧ e = true ∧ h = m.1 ∧ ¬ h < 0 then some true else none
set_option maxHeartbeats 8000000 in
set_option maxRecDepth 100000 in
theorem laws_FnExactMotionWorks.calls (k : Nat) (a0 : Int) (a1 : Int) (r : Bool) (w : World) (h : laws_FnExactMotionWorks.f k a0 a1 = some r) :
    Calls Try.prog 5 #[.int .i64 a0, .int .i64 a1] w fun e w' => e = .returned (.bool r) ∧ Below w.heap.size w w' := by
  obtain ⟨⟨R, fine⟩, hs, h2⟩ := Option.bind_eq_some_iff.mp h
  obtain ⟨⟨R1, fine1⟩, hi, h3⟩ := Option.bind_eq_some_iff.mp h2
  obtain ⟨e0, he, h4⟩ := Option.bind_eq_some_iff.mp h3
  obtain ⟨⟨m1, R'⟩, hm, h5⟩ := Option.bind_eq_some_iff.mp h4
  obtain ⟨q1, hh, h6⟩ := Option.bind_eq_some_iff.mp h5
  clear h h2 h3 h4 h5
  by_cases z : fine1 = fine ∧ e0 = true ∧ q1 = m1 ∧ ¬ q1 < 0
  · rw [if_pos z] at h6
    obtain ⟨z1, z2, z3, z4⟩ := z
    subst z1 z2 z3
    obtain rfl := Option.some.inj h6
    have hl := laws_markPairSS.len k R1 1 q1 R' hm
    have HS := Aside0.mk hs
    have HI := Aside0.mk hi
    have HE := Aside0.mk he
    have HM := Aside0.mk hm
    have HH := Aside0.mk hh
    have zb : decide (q1 < 0) = false := decide_eq_false z4
    have HH2 : Aside0 (∀ (A : Option Addr) (c : Nat) (ww : World), Kd.C (Kd.slice 23 k23) ww A R'.length R' → R1.length ≤ c → Calls Try.prog 21 #[.slice A R1.length c, .int .i64 1] ww fun e w' => e = .returned (.int .i64 q1) ∧ Drawn0 ww w') := ⟨fun A c ww hr hc => by
      rw [← hl] at hc ⊢
      exact laws_heldPairSS.calls k A c R' 1 q1 ww hr hc hh⟩
    have HLE := Aside0.mk hl
    clear hs hi he hm hh h6 z4 hl
    have FLAG1 := Aside0.mk trivial
    go_enter Try.func5, Try.ntmps5
    go_wp2_with (first
      | (go_at_call 17; ((with_reducible refine (spec_MotionWorks.calls k a0 a1 R fine1 _ HS.out).mono ?_); rintro e w1 ⟨v0, rfl, hN, hb⟩; obtain ⟨A0, c0, rfl, hc, hC⟩ := Kd.S_reads hN; have HB0 := Aside0.mk hb; have HC0 := Aside0.mk hC; have HL0 := Aside0.mk hc; have HB := Aside0.mk (Below.refl w1.heap.size w1); clear hN hb hC hc))
      | (go_at_call 18; have f_ := FLAG1; clear FLAG1 f_; ((with_reducible refine (impl_MotionWorks.calls k a0 a1 R1 fine1 _ HI.out).mono ?_); rintro e w2 ⟨v1, rfl, hS, hb⟩; obtain ⟨A1, c1, rfl, hc, hC⟩ := Kd.S_reads hS; have HG0 := Aside0.mk (Kd.S_lower hS (below_size (by repeat (first | (with_reducible first | exact HB.out | apply below_alloc | apply pw_below_drewN | apply below_drew1) | exact HB.out)))); have n_ := Aside0.mk (below_step (by repeat (first | (with_reducible first | exact HB.out | apply below_alloc | apply pw_below_drewN | apply below_drew1) | exact HB.out)) hb); clear HB; have HB := n_; clear n_; have HGL := Aside0.mk hc; have HGC := Aside0.mk hC; clear hS hb hC hc; have FE1 := Aside0.mk trivial))
      | (go_at_call 19; have f_ := FE1; clear FE1 f_; ((with_reducible refine (laws_eqPairSS.calls k A1 c1 R1 A0 c0 R true _ HGC.out HGL.out (Kd.C_below HC0.out (by repeat (first | (with_reducible first | exact HB.out | apply below_alloc | apply pw_below_drewN | apply below_drew1) | exact HB.out))) HL0.out HE.out).mono ?_); rintro e we1 ⟨rfl, hb⟩; have m_ := Aside0.mk (Kd.S_below (by (with_reducible repeat (first | apply Kd.S_alloc | apply Kd.S_drewN | apply Kd.S_drew)); exact HG0.out) hb); have n_ := Aside0.mk (below_step (by repeat (first | (with_reducible first | exact HB.out | apply below_alloc | apply pw_below_drewN | apply below_drew1) | exact HB.out)) hb); clear HB HG0; have HB := n_; have HG0 := m_; clear n_ m_ hb))
      | (go_at_call 20; ((with_reducible refine (laws_markPairSS.calls k (fun _ => True) A1 R1.length c1 R1 1 q1 R' w1 _ (by repeat (first | (with_reducible first | exact HB.out | apply below_alloc | apply pw_below_drewN | apply below_drew1) | exact HB.out)) rfl ?side1 HM.out).mono ?_); (case side1 => (with_reducible repeat (first | apply Kd.S_alloc | apply Kd.S_drewN | apply Kd.S_drew)); exact HG0.out); rintro e w3 ⟨rfl, hS, hb⟩; clear HG0 HB; have HG0 := Aside0.mk hS; have HB := Aside0.mk hb; clear hS hb; have FLAG2 := Aside0.mk trivial))
      | (go_at_call 21; ((with_reducible refine (HH2.out A1 c1 _ ?side1 HGL.out).mono ?_); (case side1 => refine S_C (e := 28) (base := w1.heap.size) (ok := fun _ => True) (n := R1.length) (c := c1) ?_; (with_reducible repeat (first | apply Kd.S_alloc | apply Kd.S_drewN | apply Kd.S_drew)); exact HG0.out); rintro e w' ⟨rfl, ⟨nd, rfl⟩⟩))
      | (go_at_call 18; have f_ := FLAG2; clear FLAG2 f_; ((with_reducible refine (impl_MotionWorks.calls k a0 a1 R1 fine1 _ HI.out).mono ?_); rintro e w4 ⟨v2, rfl, hS, hb⟩; obtain ⟨A2, c2, rfl, hc, hC⟩ := Kd.S_reads hS; have m_ := Aside0.mk (Kd.S_below (by (with_reducible repeat (first | apply Kd.S_alloc | apply Kd.S_drewN | apply Kd.S_drew)); exact HG0.out) hb); have n_ := Aside0.mk (below_step (by repeat (first | (with_reducible first | exact HB.out | apply below_alloc | apply pw_below_drewN | apply below_drew1) | exact HB.out)) hb); clear HB HG0; have HB := n_; have HG0 := m_; clear n_ m_; have HC2 := Aside0.mk hC; have HL2 := Aside0.mk hc; clear hS hb hC hc; have FE2 := Aside0.mk trivial))
      | (go_at_call 19; have f_ := FE2; clear FE2 f_; ((with_reducible refine (laws_eqPairSS.calls k A2 c2 R1 A0 c0 R true _ HC2.out HL2.out (Kd.C_below HC0.out (by repeat (first | (with_reducible first | exact HB.out | apply below_alloc | apply pw_below_drewN | apply below_drew1) | exact HB.out))) HL0.out HE.out).mono ?_); rintro e we2 ⟨rfl, hb⟩; have m_ := Aside0.mk (Kd.S_below (by (with_reducible repeat (first | apply Kd.S_alloc | apply Kd.S_drewN | apply Kd.S_drew)); exact HG0.out) hb); have n_ := Aside0.mk (below_step (by repeat (first | (with_reducible first | exact HB.out | apply below_alloc | apply pw_below_drewN | apply below_drew1) | exact HB.out)) hb); clear HB HG0; have HB := n_; have HG0 := m_; clear n_ m_ hb)))
    go_ret
    exact ⟨rfl, below_step HB0.out (by repeat (first | (with_reducible first | exact HB.out | apply below_alloc | apply pw_below_drewN | apply below_drew1) | exact HB.out))⟩
  · rw [if_neg z] at h6
    cases h6
end Go.Proofs.Ytofjjfaaadllmaa.GFnExactMotionWorks
