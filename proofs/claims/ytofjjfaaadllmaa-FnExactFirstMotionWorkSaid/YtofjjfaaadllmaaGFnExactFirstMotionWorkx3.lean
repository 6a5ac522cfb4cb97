import Derived.Test.YtofjjfaaadllmaaGFnExactFirstMotionWorkx0
import Derived.Test.YtofjjfaaadllmaaGFnExactFirstMotionWorkx1
import Derived.Test.YtofjjfaaadllmaaGFnExactFirstMotionWorkx2
namespace Go.Proofs.Ytofjjfaaadllmaa.GFnExactFirstMotionWork
open Go.RowKit Go.Proofs.YtofjjfaaadllmaaW.PrintWords Go.Proofs.YtofjjfaaadllmaaW.PrintLast Go.Proofs.YtofjjfaaadllmaaW.PrintMore
attribute [local go_sem] max2_int min2_int max_two min_two max_three min_three max_four min_four IntWalk.i64_left   -- for this text's walks alone
set_option linter.unusedVariables false
set_option linter.unusedSimpArgs false

/-- A row of rows: element i's row, as one of the call's own. -/
theorem S_elem_row {A : Option Addr} {n c base : Nat} {W : World} {ok : Nat → Prop} {xs : List (List S23)} (h : Kd.S (Kd.slice 23 k23) 28 W base ok (.slice A n c) xs) (i : Int) (h0 : 0 ≤ i) (h1 : i < (xs.length : Int)) :
    ∃ (ad : Addr) (A1 : Option Addr) (c1 : Nat), A = some ad ∧ n = xs.length ∧ W.cell? (ad.add i.toNat) = some (.slice A1 (rd_L2 xs i).length c1) ∧ Kd.R k23 23 W base (fun _ => True) (.slice A1 (rd_L2 xs i).length c1) (rd_L2 xs i) := by
  have hn : 0 < xs.length := by omega
  have hlen := (Kd.S_reads' h).1
  obtain ⟨g, cap, e0, _⟩ := Kd.S_form h hn
  injection e0 with e1 e2 e3
  subst e1 e2 e3
  obtain ⟨oki, c2, hcl, hM, hcell, hoki, hH⟩ := Kd.S_lend h ([] : List S23) i h0 h1
  obtain ⟨v, rfl, hR⟩ := hM
  have hR0 : Kd.R k23 23 W base oki v (rd_L2 xs i) := hR
  obtain ⟨A1, cc, hv, hcc, _⟩ := Kd.R_reads hR0
  have hcl0 := hcell 0 v rfl
  subst hv
  refine ⟨⟨g, 0, none⟩, A1, cc, rfl, rfl, ?_, Kd.R_mono hR0 (fun _ _ => trivial)⟩
  have e1 : (⟨g, 0, none⟩ : Addr).add i.toNat = ⟨g, i.toNat * 1 + 0, none⟩ := by rw [add_plain]; simp
  rw [e1]
  exact hcl0
def fmB (k : Nat) (row out : List S23) : Option (List S23) := if out.length = 0 then some row else (impl_teeth.f k row).bind fun a => (impl_teeth.f k out).bind fun b => if a < b then some row else some out
theorem fmB_mono (k : Nat) (row out : List S23) : LeO (fmB k row out) (fmB (k + 1) row out) := by
  unfold fmB
  exact LeO.ite (LeO.refl _) (LeO.bind (impl_teeth.mono _ _) (fun _ => LeO.bind (impl_teeth.mono _ _) (fun _ => LeO.refl _)))
def fmF (k : Nat) (rows : List (List S23)) : Nat → Int → List S23 → Option (List S23)
  | 0, _, _ => none
  | g + 1, i, out => if i < (rows.length : Int) then (fmB k (rd_L2 rows i) out).bind fun o => fmF k rows g (i + 1) o else some out
theorem fmF_mono (k : Nat) (rows : List (List S23)) : ∀ g i out, LeO (fmF k rows g i out) (fmF (k + 1) rows (g + 1) i out)
  | 0, _, _ => fun r h => by simp [fmF] at h
  | g + 1, i, out => by
    rw [fmF, fmF]
    exact LeO.ite (LeO.bind (fmB_mono k _ _) (fun _ => fmF_mono k rows g _ _)) (LeO.refl _)
def impl_FirstMotionWork.f (k : Nat) (a0 a1 : Int) : Option (List S23 × Bool) := (impl_isDial.f a0).bind fun t => (impl_areTeeth.f a1).bind fun u => if t = true ∧ u = true then (impl_works.f k a0 a1).bind fun rows => (if rows.length ≤ 1000000000 then fmF k rows k 0 [] else none).bind fun o => some (o, decide (0 < o.length)) else some ([], false)
theorem impl_FirstMotionWork.mono : ∀ a0 a1 k, LeO (impl_FirstMotionWork.f k a0 a1) (impl_FirstMotionWork.f (k + 1) a0 a1) := fun a0 a1 k => by
  unfold impl_FirstMotionWork.f
  exact LeO.bind (LeO.refl _) (fun _ => LeO.bind (LeO.refl _) (fun _ => LeO.ite (LeO.bind (impl_works.mono _ _ _) (fun _ => LeO.bind (LeO.ite (fmF_mono k _ k 0 []) (LeO.refl _)) (fun _ => LeO.refl _))) (LeO.refl _)))

theorem R_C {α : Type} {d : Kd α} {e n c base : Nat} {ok : Nat → Prop} {w : World} {A : Option Addr} {xs : List α} (h : Kd.R d e w base ok (.slice A n c) xs) : d.C w A xs.length xs := (Kd.R_reads' h).2.2
set_option maxHeartbeats 8000000 in
set_option maxRecDepth 100000 in
theorem impl_FirstMotionWork.yes (k : Nat) (a0 a1 : Int) (rows : List (List S23)) (o : List S23) (w : World) (ht : impl_isDial.f a0 = some true) (hu : impl_areTeeth.f a1 = some true) (hw : impl_works.f k a0 a1 = some rows) (hl : rows.length ≤ 1000000000) (ho : fmF k rows k 0 [] = some o) :
    Calls Try.prog 13 #[.int .i64 a0, .int .i64 a1] w fun e w' => ∃ v0_ : Value, e = .returned (.tuple #[v0_, .bool (decide (0 < o.length))]) ∧ Kd.R k23 23 w' w.heap.size (fun _ => True) v0_ o ∧ Below w.heap.size w w' := by
  have HB := Aside0.mk (Below.refl w.heap.size w)
  have HT := Aside0.mk ht
  have HU := Aside0.mk hu
  have HW := Aside0.mk hw
  have HF := Aside0.mk ho
  have HRL := Aside0.mk hl
  clear ht hu hw ho hl
  go_enter Try.func13, Try.ntmps13
  go_wp2_with (first | ((with_reducible refine gate_dst (N := 17) rfl ?_); (refine Kd.R_lit k23 _ 23 ?hg (N := 17) ?hd (xs := ([] : List S23)) (inner := []) (ok := fun _ => True) (okp := fun _ => True) ?hr ?hp (fun _ hk => hk) trivial (Below.refl _ _) (Nat.le_refl _) (by simp) ?_; (case hd => rfl); (case hg => rfl); (case hr => first | (go_simp; done) | (go_simp; rfl)); (case hp => exact (Reps.none _ _)); intro v8 w8 ho hb hg_ hnew_; clear hg_ hnew_; obtain ⟨A8, c8, rfl, hc8, hC8⟩ := Kd.R_reads ho; clear hc8 hC8; have HO := Aside0.mk (Kd.R_lower ho (below_size (by repeat (first | (with_reducible first | exact HB.out | apply below_alloc | apply pw_below_drewN | apply below_drew1) | exact HB.out)))); have n0_ := Aside0.mk (below_step (by repeat (first | (with_reducible first | exact HB.out | apply below_alloc | apply pw_below_drewN | apply below_drew1) | exact HB.out)) hb); clear HB; have HB := n0_; clear n0_ ho hb)) | (go_at_call 44; (with_reducible refine (impl_isDial.calls a0 _ _ HT.out).mono ?_); rintro e w' ⟨rfl, ⟨nd, rfl⟩⟩) | (go_at_call 45; (with_reducible refine (impl_areTeeth.calls a1 _ _ HU.out).mono ?_); rintro e w' ⟨rfl, ⟨nd, rfl⟩⟩) | (go_at_call 46; ((with_reducible refine (impl_works.calls k a0 a1 rows _ HW.out).mono ?_); rintro e w9 ⟨v9, rfl, hS, hb⟩; obtain ⟨A9, c9, rfl, hc9, hC9⟩ := Kd.S_reads hS; have HS := Aside0.mk (Kd.S_lower hS (below_size (by repeat (first | (with_reducible first | exact HB.out | apply below_alloc | apply pw_below_drewN | apply below_drew1) | exact HB.out)))); have n1_ := Aside0.mk (Kd.R_below (by (with_reducible repeat (first | apply Kd.R_alloc | apply Kd.R_drewN | apply Kd.R_drew)); exact HO.out) hb); have n0_ := Aside0.mk (below_step (by repeat (first | (with_reducible first | exact HB.out | apply below_alloc | apply pw_below_drewN | apply below_drew1) | exact HB.out)) hb); clear HB HO; have HB := n0_; have HO := n1_; clear n0_ n1_ hS hb hc9 hC9)))
  go_loopg [22, 6] k (fun gk v22 v6 w' => ∃ (i : Int) (out : List S23) (A6 : Option Addr) (c6 : Nat), v22 = .int .i64 i ∧ v6 = .slice A6 out.length c6 ∧ Aside0 (0 ≤ i ∧ i ≤ rows.length) ∧ Aside0 (fmF k rows gk i out = some o) ∧ Aside0 (Kd.R k23 23 w' w.heap.size (fun _ => True) (.slice A6 out.length c6) out) ∧ Aside0 (Kd.S (Kd.slice 23 k23) 28 w' w.heap.size (fun _ => True) (.slice A9 rows.length c9) rows) ∧ Aside0 (Below w.heap.size w w'))
  case atStart => exact ⟨0, [], A8, c8, rfl, rfl, ⟨by omega⟩, HF, HO, HS, HB⟩
  case round =>
    clear HO HS HB HF
    obtain ⟨i, out, A6, c6, rfl, rfl, HI, HA0, HO, HS, HB⟩ := hrel
    cases gk with
    | zero => exact absurd HA0.out (by simp [fmF])
    | succ k1 =>
      have H := HA0.out
      clear HA0
      simp only [fmF] at H
      by_cases c3 : i < (rows.length : Int)
      · rw [if_pos c3] at H
        have c3b : decide (i < (rows.length : Int)) = true := decide_eq_true c3
        have p0 : 0 ≤ i := HI.out.1
        obtain ⟨x, hx, H⟩ := Option.bind_eq_some_iff.mp H
        have H' := Aside0.mk H
        clear H
        have HL := Aside0.mk c3
        obtain ⟨ad, A1, c1, rfl, e1, hcell, hR⟩ := S_elem_row HS.out i p0 c3
        have HR := Aside0.mk hR
        have HCR := Aside0.mk (Kd.R_reads' hR).2.1
        have HC6 := Aside0.mk (Kd.R_reads' HO.out).2.1
        clear hR e1
        unfold fmB at hx
        by_cases z : out.length = 0
        · rw [if_pos z] at hx
          obtain rfl := Option.some.inj hx
          have zb : ((out.length : Int) == 0) = true := beq_iff_eq.2 (by omega)
          clear z hx
          replace p0 := eq_true p0
          replace c3 := eq_true c3
          go_wp2
          go_roundg k1
          case measure => omega
          case rel => exact ⟨i + 1, _, _, _, by rw [IntWalk.wrap64_in (i + 1) ⟨by have := HI.out; omega, by have := HI.out; have := HRL.out; omega⟩], rfl, ⟨by have := HI.out; have := HL.out; omega⟩, H', ⟨(by (with_reducible repeat (first | apply Kd.R_alloc | apply Kd.R_drewN | apply Kd.R_drew)); exact HR.out)⟩, ⟨(by (with_reducible repeat (first | apply Kd.S_alloc | apply Kd.S_drewN | apply Kd.S_drew)); exact HS.out)⟩, ⟨(by repeat (first | (with_reducible first | exact HB.out | apply below_alloc | apply pw_below_drewN | apply below_drew1) | exact HB.out))⟩⟩
        · rw [if_neg z] at hx
          have zb : ((out.length : Int) == 0) = false := beq_eq_false_iff_ne.2 (by omega)
          obtain ⟨a, ha, hx⟩ := Option.bind_eq_some_iff.mp hx
          obtain ⟨b, hb, hx⟩ := Option.bind_eq_some_iff.mp hx
          have HA := Aside0.mk ha
          have HBB := Aside0.mk hb
          clear z ha hb
          replace p0 := eq_true p0
          replace c3 := eq_true c3
          by_cases y : a < b
          · rw [if_pos y] at hx
            obtain rfl := Option.some.inj hx
            have yb : decide (a < b) = true := decide_eq_true y
            clear y hx
            go_wp2_with (first | (go_at_call 47; (with_reducible refine (impl_teeth.calls k A1 c1 (rd_L2 rows i) a _ ?hr HCR.out HA.out).mono ?_); (case hr => refine R_C (e := 23) (base := w.heap.size) (ok := fun _ => True) (n := (rd_L2 rows i).length) (c := c1) ?_; (with_reducible repeat (first | apply Kd.R_alloc | apply Kd.R_drewN | apply Kd.R_drew)); exact HR.out); rintro e wa ⟨rfl, hb⟩; have n0_ := Aside0.mk (below_step (by repeat (first | (with_reducible first | exact HB.out | apply below_alloc | apply pw_below_drewN | apply below_drew1) | exact HB.out)) hb); have n1_ := Aside0.mk (Kd.R_below (by (with_reducible repeat (first | apply Kd.R_alloc | apply Kd.R_drewN | apply Kd.R_drew)); exact HO.out) hb); have n2_ := Aside0.mk (Kd.R_below (by (with_reducible repeat (first | apply Kd.R_alloc | apply Kd.R_drewN | apply Kd.R_drew)); exact HR.out) hb); have n3_ := Aside0.mk (Kd.S_below (by (with_reducible repeat (first | apply Kd.S_alloc | apply Kd.S_drewN | apply Kd.S_drew)); exact HS.out) hb); clear HB HO HR HS; have HB := n0_; have HO := n1_; have HR := n2_; have HS := n3_; clear n0_ n1_ n2_ n3_; clear hb) | (go_at_call 47; (with_reducible refine (impl_teeth.calls k A6 c6 out b _ ?hr HC6.out HBB.out).mono ?_); (case hr => refine R_C (e := 23) (base := w.heap.size) (ok := fun _ => True) (n := out.length) (c := c6) ?_; (with_reducible repeat (first | apply Kd.R_alloc | apply Kd.R_drewN | apply Kd.R_drew)); exact HO.out); rintro e wb ⟨rfl, hb⟩; have n0_ := Aside0.mk (below_step (by repeat (first | (with_reducible first | exact HB.out | apply below_alloc | apply pw_below_drewN | apply below_drew1) | exact HB.out)) hb); have n1_ := Aside0.mk (Kd.R_below (by (with_reducible repeat (first | apply Kd.R_alloc | apply Kd.R_drewN | apply Kd.R_drew)); exact HO.out) hb); have n2_ := Aside0.mk (Kd.R_below (by (with_reducible repeat (first | apply Kd.R_alloc | apply Kd.R_drewN | apply Kd.R_drew)); exact HR.out) hb); have n3_ := Aside0.mk (Kd.S_below (by (with_reducible repeat (first | apply Kd.S_alloc | apply Kd.S_drewN | apply Kd.S_drew)); exact HS.out) hb); clear HB HO HR HS; have HB := n0_; have HO := n1_; have HR := n2_; have HS := n3_; clear n0_ n1_ n2_ n3_; clear hb))
            go_roundg k1
            case measure => omega
            case rel => exact ⟨i + 1, _, _, _, by rw [IntWalk.wrap64_in (i + 1) ⟨by have := HI.out; omega, by have := HI.out; have := HRL.out; omega⟩], rfl, ⟨by have := HI.out; have := HL.out; omega⟩, H', ⟨(by (with_reducible repeat (first | apply Kd.R_alloc | apply Kd.R_drewN | apply Kd.R_drew)); exact HR.out)⟩, ⟨(by (with_reducible repeat (first | apply Kd.S_alloc | apply Kd.S_drewN | apply Kd.S_drew)); exact HS.out)⟩, ⟨(by repeat (first | (with_reducible first | exact HB.out | apply below_alloc | apply pw_below_drewN | apply below_drew1) | exact HB.out))⟩⟩
          · rw [if_neg y] at hx
            obtain rfl := Option.some.inj hx
            have yb : decide (a < b) = false := decide_eq_false y
            clear y hx
            go_wp2_with (first | (go_at_call 47; (with_reducible refine (impl_teeth.calls k A1 c1 (rd_L2 rows i) a _ ?hr HCR.out HA.out).mono ?_); (case hr => refine R_C (e := 23) (base := w.heap.size) (ok := fun _ => True) (n := (rd_L2 rows i).length) (c := c1) ?_; (with_reducible repeat (first | apply Kd.R_alloc | apply Kd.R_drewN | apply Kd.R_drew)); exact HR.out); rintro e wa ⟨rfl, hb⟩; have n0_ := Aside0.mk (below_step (by repeat (first | (with_reducible first | exact HB.out | apply below_alloc | apply pw_below_drewN | apply below_drew1) | exact HB.out)) hb); have n1_ := Aside0.mk (Kd.R_below (by (with_reducible repeat (first | apply Kd.R_alloc | apply Kd.R_drewN | apply Kd.R_drew)); exact HO.out) hb); have n2_ := Aside0.mk (Kd.R_below (by (with_reducible repeat (first | apply Kd.R_alloc | apply Kd.R_drewN | apply Kd.R_drew)); exact HR.out) hb); have n3_ := Aside0.mk (Kd.S_below (by (with_reducible repeat (first | apply Kd.S_alloc | apply Kd.S_drewN | apply Kd.S_drew)); exact HS.out) hb); clear HB HO HR HS; have HB := n0_; have HO := n1_; have HR := n2_; have HS := n3_; clear n0_ n1_ n2_ n3_; clear hb) | (go_at_call 47; (with_reducible refine (impl_teeth.calls k A6 c6 out b _ ?hr HC6.out HBB.out).mono ?_); (case hr => refine R_C (e := 23) (base := w.heap.size) (ok := fun _ => True) (n := out.length) (c := c6) ?_; (with_reducible repeat (first | apply Kd.R_alloc | apply Kd.R_drewN | apply Kd.R_drew)); exact HO.out); rintro e wb ⟨rfl, hb⟩; have n0_ := Aside0.mk (below_step (by repeat (first | (with_reducible first | exact HB.out | apply below_alloc | apply pw_below_drewN | apply below_drew1) | exact HB.out)) hb); have n1_ := Aside0.mk (Kd.R_below (by (with_reducible repeat (first | apply Kd.R_alloc | apply Kd.R_drewN | apply Kd.R_drew)); exact HO.out) hb); have n2_ := Aside0.mk (Kd.R_below (by (with_reducible repeat (first | apply Kd.R_alloc | apply Kd.R_drewN | apply Kd.R_drew)); exact HR.out) hb); have n3_ := Aside0.mk (Kd.S_below (by (with_reducible repeat (first | apply Kd.S_alloc | apply Kd.S_drewN | apply Kd.S_drew)); exact HS.out) hb); clear HB HO HR HS; have HB := n0_; have HO := n1_; have HR := n2_; have HS := n3_; clear n0_ n1_ n2_ n3_; clear hb))
            go_roundg k1
            case measure => omega
            case rel => exact ⟨i + 1, _, _, _, by rw [IntWalk.wrap64_in (i + 1) ⟨by have := HI.out; omega, by have := HI.out; have := HRL.out; omega⟩], rfl, ⟨by have := HI.out; have := HL.out; omega⟩, H', ⟨(by (with_reducible repeat (first | apply Kd.R_alloc | apply Kd.R_drewN | apply Kd.R_drew)); exact HO.out)⟩, ⟨(by (with_reducible repeat (first | apply Kd.S_alloc | apply Kd.S_drewN | apply Kd.S_drew)); exact HS.out)⟩, ⟨(by repeat (first | (with_reducible first | exact HB.out | apply below_alloc | apply pw_below_drewN | apply below_drew1) | exact HB.out))⟩⟩
      · rw [if_neg c3] at H
        have c3b : decide (i < (rows.length : Int)) = false := decide_eq_false c3
        clear c3
        obtain rfl := Option.some.inj H
        clear H
        go_wp2
        all_goals (try go_region)
        all_goals (try go_wp2)
        all_goals go_ret2
        all_goals exact ⟨.slice A6 out.length c6, by simp, (by (with_reducible repeat (first | apply Kd.R_alloc | apply Kd.R_drewN | apply Kd.R_drew)); exact HO.out), (by repeat (first | (with_reducible first | exact HB.out | apply below_alloc | apply pw_below_drewN | apply below_drew1) | exact HB.out))⟩

set_option maxHeartbeats 8000000 in
set_option maxRecDepth 100000 in
theorem impl_FirstMotionWork.no (a0 a1 : Int) (t u : Bool) (w : World) (ht : impl_isDial.f a0 = some t) (hu : impl_areTeeth.f a1 = some u) (hz : ¬ (t = true ∧ u = true)) :
    Calls Try.prog 13 #[.int .i64 a0, .int .i64 a1] w fun e w' => ∃ v0_ : Value, e = .returned (.tuple #[v0_, .bool false]) ∧ Kd.R k23 23 w' w.heap.size (fun _ => True) v0_ [] ∧ Below w.heap.size w w' := by
  have HB := Aside0.mk (Below.refl w.heap.size w)
  have HT := Aside0.mk ht
  have HU := Aside0.mk hu
  cases t with
  | false =>
    clear ht hu hz
    go_enter Try.func13, Try.ntmps13
    go_wp2_with (first | (go_at_call 44; (with_reducible refine (impl_isDial.calls a0 _ _ HT.out).mono ?_); rintro e w' ⟨rfl, ⟨nd, rfl⟩⟩) | (go_at_call 45; (with_reducible refine (impl_areTeeth.calls a1 _ _ HU.out).mono ?_); rintro e w' ⟨rfl, ⟨nd, rfl⟩⟩))
    go_ret2
    exact ⟨_, rfl, Kd.R_nil _ _ _ _ _, (by repeat (first | (with_reducible first | exact HB.out | apply below_alloc | apply pw_below_drewN | apply below_drew1) | exact HB.out))⟩
  | true =>
    cases u with
    | false =>
      clear ht hu hz
      go_enter Try.func13, Try.ntmps13
      go_wp2_with (first | (go_at_call 44; (with_reducible refine (impl_isDial.calls a0 _ _ HT.out).mono ?_); rintro e w' ⟨rfl, ⟨nd, rfl⟩⟩) | (go_at_call 45; (with_reducible refine (impl_areTeeth.calls a1 _ _ HU.out).mono ?_); rintro e w' ⟨rfl, ⟨nd, rfl⟩⟩))
      go_ret2
      exact ⟨_, rfl, Kd.R_nil _ _ _ _ _, (by repeat (first | (with_reducible first | exact HB.out | apply below_alloc | apply pw_below_drewN | apply below_drew1) | exact HB.out))⟩
    | true => exact absurd ⟨rfl, rfl⟩ hz

theorem impl_FirstMotionWork.calls (k : Nat) (a0 a1 : Int) (r1 : List S23) (r2 : Bool) (w : World) (h : impl_FirstMotionWork.f k a0 a1 = some (r1, r2)) :
    Calls Try.prog 13 #[.int .i64 a0, .int .i64 a1] w fun e w' => ∃ v0_ : Value, e = .returned (.tuple #[v0_, .bool r2]) ∧ Kd.R k23 23 w' w.heap.size (fun _ => True) v0_ r1 ∧ Below w.heap.size w w' := by
  unfold impl_FirstMotionWork.f at h
  obtain ⟨t, ht, h⟩ := Option.bind_eq_some_iff.mp h
  obtain ⟨u, hu, h⟩ := Option.bind_eq_some_iff.mp h
  by_cases z : t = true ∧ u = true
  · rw [if_pos z] at h
    obtain ⟨rows, hw, h⟩ := Option.bind_eq_some_iff.mp h
    obtain ⟨o, ho, h⟩ := Option.bind_eq_some_iff.mp h
    simp only [Option.some.injEq, Prod.mk.injEq] at h
    obtain ⟨rfl, rfl⟩ := h
    obtain ⟨rfl, rfl⟩ := z
    split at ho
    · rename_i hl
      exact impl_FirstMotionWork.yes k a0 a1 rows _ w ht hu hw hl ho
    · cases ho
  · rw [if_neg z] at h
    simp only [Option.some.injEq, Prod.mk.injEq] at h
    obtain ⟨rfl, rfl⟩ := h
    exact impl_FirstMotionWork.no a0 a1 t u w ht hu z

def smN (row : List S23) : Int := wrap64 ((rd_T23 row 0).f0 + (rd_T23 row 0).f1)
def smF (rows : List (List S23)) : Nat → Int → List S23 → Int → Option (List S23 × Int)
  | 0, _, _, _ => none
  | g + 1, i, out, least => if i < (rows.length : Int) then (if 0 < (rd_L2 rows i).length then (if least = 0 ∨ smN (rd_L2 rows i) < least then smF rows g (i + 1) (rd_L2 rows i) (smN (rd_L2 rows i)) else smF rows g (i + 1) out least) else none) else some (out, least)
theorem smF_mono (rows : List (List S23)) : ∀ g i out l, LeO (smF rows g i out l) (smF rows (g + 1) i out l)
  | 0, _, _, _ => fun r h => by simp [smF] at h
  | g + 1, i, out, l => by
    rw [smF, smF]
    exact LeO.ite (LeO.ite (LeO.ite (smF_mono rows g _ _ _) (smF_mono rows g _ _ _)) (LeO.refl _)) (LeO.refl _)
def spec_FirstMotionWork.f (k : Nat) (a0 a1 : Int) : Option (List S23 × Bool) := (spec_diHours.f a0).bind fun t => (spec_geWheel.f a1).bind fun u => if t = true ∧ u = true then (spec_geWorks.f k a0 a1).bind fun rows => (if rows.length ≤ 1000000000 then smF rows k 0 [] 0 else none).bind fun p => if p.2 = 0 then some ([], false) else some (p.1, true) else some ([], false)
theorem spec_FirstMotionWork.mono : ∀ a0 a1 k, LeO (spec_FirstMotionWork.f k a0 a1) (spec_FirstMotionWork.f (k + 1) a0 a1) := fun a0 a1 k => by
  unfold spec_FirstMotionWork.f
  exact LeO.bind (LeO.refl _) (fun _ => LeO.bind (LeO.refl _) (fun _ => LeO.ite (LeO.bind (spec_geWorks.mono _ _ _) (fun _ => LeO.bind (LeO.ite (smF_mono _ k 0 [] 0) (LeO.refl _)) (fun _ => LeO.refl _))) (LeO.refl _)))

set_option maxHeartbeats 8000000 in
set_option maxRecDepth 100000 in
theorem spec_FirstMotionWork.yes (k : Nat) (a0 a1 : Int) (rows : List (List S23)) (o : List S23 × Int) (w : World) (ht : spec_diHours.f a0 = some true) (hu : spec_geWheel.f a1 = some true) (hw : spec_geWorks.f k a0 a1 = some rows) (hl : rows.length ≤ 1000000000) (ho : smF rows k 0 [] 0 = some o) (r0 : List S23) (rb : Bool) (hr0 : o.2 = 0 → r0 = [] ∧ rb = false) (hr1 : o.2 ≠ 0 → r0 = o.1 ∧ rb = true) :
    Calls Try.prog 12 #[.int .i64 a0, .int .i64 a1] w fun e w' => ∃ v0_ : Value, e = .returned (.tuple #[v0_, .bool rb]) ∧ Kd.R k23 23 w' w.heap.size (fun _ => True) v0_ r0 ∧ Below w.heap.size w w' := by
  have hu23 := Try.underlying23
  have HB := Aside0.mk (Below.refl w.heap.size w)
  have HT := Aside0.mk ht
  have HU := Aside0.mk hu
  have HW := Aside0.mk hw
  have HF := Aside0.mk ho
  have HRL := Aside0.mk hl
  have HZ0 := Aside0.mk hr0
  have HZ1 := Aside0.mk hr1
  clear ht hu hw ho hl hr0 hr1
  go_enter Try.func12, Try.ntmps12
  go_wp2_with (first | ((with_reducible refine gate_dst (N := 19) rfl ?_); (refine Kd.R_lit k23 _ 23 ?hg (N := 19) ?hd (xs := ([] : List S23)) (inner := []) (ok := fun _ => True) (okp := fun _ => True) ?hr ?hp (fun _ hk => hk) trivial (Below.refl _ _) (Nat.le_refl _) (by simp) ?_; (case hd => rfl); (case hg => rfl); (case hr => first | (go_simp; done) | (go_simp; rfl)); (case hp => exact (Reps.none _ _)); intro v8 w8 ho hb hg_ hnew_; clear hg_ hnew_; obtain ⟨A8, c8, rfl, hc8, hC8⟩ := Kd.R_reads ho; clear hc8 hC8; have HO := Aside0.mk (Kd.R_lower ho (below_size (by repeat (first | (with_reducible first | exact HB.out | apply below_alloc | apply pw_below_drewN | apply below_drew1) | exact HB.out)))); have n0_ := Aside0.mk (below_step (by repeat (first | (with_reducible first | exact HB.out | apply below_alloc | apply pw_below_drewN | apply below_drew1) | exact HB.out)) hb); clear HB; have HB := n0_; clear n0_ ho hb)) | (go_at_call 41; (with_reducible refine (spec_diHours.calls a0 _ _ HT.out).mono ?_); rintro e w' ⟨rfl, ⟨nd, rfl⟩⟩) | (go_at_call 42; (with_reducible refine (spec_geWheel.calls a1 _ _ HU.out).mono ?_); rintro e w' ⟨rfl, ⟨nd, rfl⟩⟩) | (go_at_call 43; ((with_reducible refine (spec_geWorks.calls k a0 a1 rows _ HW.out).mono ?_); rintro e w9 ⟨v9, rfl, hS, hb⟩; obtain ⟨A9, c9, rfl, hc9, hC9⟩ := Kd.S_reads hS; have HS := Aside0.mk (Kd.S_lower hS (below_size (by repeat (first | (with_reducible first | exact HB.out | apply below_alloc | apply pw_below_drewN | apply below_drew1) | exact HB.out)))); have n1_ := Aside0.mk (Kd.R_below (by (with_reducible repeat (first | apply Kd.R_alloc | apply Kd.R_drewN | apply Kd.R_drew)); exact HO.out) hb); have n0_ := Aside0.mk (below_step (by repeat (first | (with_reducible first | exact HB.out | apply below_alloc | apply pw_below_drewN | apply below_drew1) | exact HB.out)) hb); clear HB HO; have HB := n0_; have HO := n1_; clear n0_ n1_ hS hb hc9 hC9)))
  go_loopg [24, 6, 7] k (fun gk v24 v6 v7 w' => ∃ (i least : Int) (out : List S23) (A6 : Option Addr) (c6 : Nat), v24 = .int .i64 i ∧ v6 = .slice A6 out.length c6 ∧ v7 = .int .i64 least ∧ Aside0 (0 ≤ i ∧ i ≤ rows.length) ∧ Aside0 (smF rows gk i out least = some o) ∧ Aside0 (Kd.R k23 23 w' w.heap.size (fun _ => True) (.slice A6 out.length c6) out) ∧ Aside0 (Kd.S (Kd.slice 23 k23) 28 w' w.heap.size (fun _ => True) (.slice A9 rows.length c9) rows) ∧ Aside0 (Below w.heap.size w w'))
  case atStart => exact ⟨0, 0, [], A8, c8, rfl, rfl, rfl, ⟨by omega⟩, HF, HO, HS, HB⟩
  case round =>
    clear HO HS HB HF
    obtain ⟨i, least, out, A6, c6, rfl, rfl, rfl, HI, HA0, HO, HS, HB⟩ := hrel
    cases gk with
    | zero => exact absurd HA0.out (by simp [smF])
    | succ k1 =>
      have H := HA0.out
      clear HA0
      simp only [smF] at H
      by_cases c3 : i < (rows.length : Int)
      · rw [if_pos c3] at H
        have c3b : decide (i < (rows.length : Int)) = true := decide_eq_true c3
        have p0 : 0 ≤ i := HI.out.1
        by_cases c4 : 0 < (rd_L2 rows i).length
        · rw [if_pos c4] at H
          have HL := Aside0.mk c3
          obtain ⟨ad, A1, c1, rfl, e1, hcell, hR⟩ := S_elem_row HS.out i p0 c3
          have HR := Aside0.mk hR
          obtain ⟨ad2, e2, hx0, hx1⟩ := at_T23 (Kd.R_reads' hR).2.2 0 (Int.le_refl 0) (by omega)
          subst e2
          obtain ⟨g2, rfl⟩ := Kd.R_head hR
          have y0 : wr.cell? ⟨g2, 0, none⟩ = some (.int .i64 (rd_T23 (rd_L2 rows i) 0).f0) := by
            rw [← hx0, add_plain]
            rfl
          have y1 : wr.cell? ⟨g2, 1, none⟩ = some (.int .i64 (rd_T23 (rd_L2 rows i) 0).f1) := by
            rw [← hx1, add_plain]
            rfl
          clear hx0 hx1
          have c4i : (0 : Int) < ((rd_L2 rows i).length : Int) := by omega
          clear hR e1
          replace p0 := eq_true p0
          replace c3 := eq_true c3
          replace c4i := eq_true c4i
          by_cases z : least = 0
          · rw [if_pos (Or.inl z)] at H
            have H' := Aside0.mk H
            have zb : (least == 0) = true := beq_iff_eq.2 z
            clear H z
            go_wp2
            refine wp_region_quiet_lit (by kernel_rfl) (by kernel_rfl) ?_
            repeat (go_big_quiet_step (fail))
            refine wpQuiet_nil ?_
            intro _ hw'
            obtain ⟨nq, rfl⟩ := hw'
            go_wp2
            go_roundg k1
            case measure => omega
            case rel => exact ⟨i + 1, _, _, _, _, by rw [IntWalk.wrap64_in (i + 1) ⟨by have := HI.out; omega, by have := HI.out; have := HRL.out; omega⟩], rfl, rfl, ⟨by have := HI.out; have := HL.out; omega⟩, H', ⟨(by (with_reducible repeat (first | apply Kd.R_alloc | apply Kd.R_drewN | apply Kd.R_drew)); exact HR.out)⟩, ⟨(by (with_reducible repeat (first | apply Kd.S_alloc | apply Kd.S_drewN | apply Kd.S_drew)); exact HS.out)⟩, ⟨(by repeat (first | (with_reducible first | exact HB.out | apply below_alloc | apply pw_below_drewN | apply below_drew1) | exact HB.out))⟩⟩
          · by_cases y : smN (rd_L2 rows i) < least
            · rw [if_pos (Or.inr y)] at H
              have H' := Aside0.mk H
              have zb : (least == 0) = false := beq_eq_false_iff_ne.2 z
              have yb : decide (wrap64 ((rd_T23 (rd_L2 rows i) 0).f0 + (rd_T23 (rd_L2 rows i) 0).f1) < least) = true := decide_eq_true y
              clear H z y
              go_wp2
              refine wp_region_quiet_lit (by kernel_rfl) (by kernel_rfl) ?_
              repeat (go_big_quiet_step (fail))
              refine wpQuiet_nil ?_
              intro _ hw'
              obtain ⟨nq, rfl⟩ := hw'
              go_wp2
              go_roundg k1
              case measure => omega
              case rel => exact ⟨i + 1, _, _, _, _, by rw [IntWalk.wrap64_in (i + 1) ⟨by have := HI.out; omega, by have := HI.out; have := HRL.out; omega⟩], rfl, rfl, ⟨by have := HI.out; have := HL.out; omega⟩, H', ⟨(by (with_reducible repeat (first | apply Kd.R_alloc | apply Kd.R_drewN | apply Kd.R_drew)); exact HR.out)⟩, ⟨(by (with_reducible repeat (first | apply Kd.S_alloc | apply Kd.S_drewN | apply Kd.S_drew)); exact HS.out)⟩, ⟨(by repeat (first | (with_reducible first | exact HB.out | apply below_alloc | apply pw_below_drewN | apply below_drew1) | exact HB.out))⟩⟩
            · rw [if_neg (fun q => q.elim z y)] at H
              have H' := Aside0.mk H
              have zb : (least == 0) = false := beq_eq_false_iff_ne.2 z
              have yb : decide (wrap64 ((rd_T23 (rd_L2 rows i) 0).f0 + (rd_T23 (rd_L2 rows i) 0).f1) < least) = false := decide_eq_false y
              clear H z y
              go_wp2
              refine wp_region_quiet_lit (by kernel_rfl) (by kernel_rfl) ?_
              repeat (go_big_quiet_step (fail))
              refine wpQuiet_nil ?_
              intro _ hw'
              obtain ⟨nq, rfl⟩ := hw'
              go_wp2
              go_roundg k1
              case measure => omega
              case rel => exact ⟨i + 1, _, _, _, _, by rw [IntWalk.wrap64_in (i + 1) ⟨by have := HI.out; omega, by have := HI.out; have := HRL.out; omega⟩], rfl, rfl, ⟨by have := HI.out; have := HL.out; omega⟩, H', ⟨(by (with_reducible repeat (first | apply Kd.R_alloc | apply Kd.R_drewN | apply Kd.R_drew)); exact HO.out)⟩, ⟨(by (with_reducible repeat (first | apply Kd.S_alloc | apply Kd.S_drewN | apply Kd.S_drew)); exact HS.out)⟩, ⟨(by repeat (first | (with_reducible first | exact HB.out | apply below_alloc | apply pw_below_drewN | apply below_drew1) | exact HB.out))⟩⟩
        · rw [if_neg c4] at H
          cases H
      · rw [if_neg c3] at H
        have c3b : decide (i < (rows.length : Int)) = false := decide_eq_false c3
        clear c3
        obtain rfl := Option.some.inj H
        clear H
        by_cases z : least = 0
        · have zb : (least == 0) = true := beq_iff_eq.2 z
          obtain ⟨rfl, rfl⟩ := HZ0.out z
          clear z HZ0 HZ1
          go_wp2
          go_ret2
          exact ⟨_, rfl, Kd.R_nil _ _ _ _ _, (by repeat (first | (with_reducible first | exact HB.out | apply below_alloc | apply pw_below_drewN | apply below_drew1) | exact HB.out))⟩
        · have zb : (least == 0) = false := beq_eq_false_iff_ne.2 z
          obtain ⟨rfl, rfl⟩ := HZ1.out z
          clear z HZ0 HZ1
          go_wp2
          all_goals (try go_region)
          all_goals (try go_wp2)
          all_goals go_ret2
          all_goals exact ⟨.slice A6 _ c6, rfl, (by (with_reducible repeat (first | apply Kd.R_alloc | apply Kd.R_drewN | apply Kd.R_drew)); exact HO.out), (by repeat (first | (with_reducible first | exact HB.out | apply below_alloc | apply pw_below_drewN | apply below_drew1) | exact HB.out))⟩

set_option maxHeartbeats 8000000 in
set_option maxRecDepth 100000 in
theorem spec_FirstMotionWork.no (a0 a1 : Int) (t u : Bool) (w : World) (ht : spec_diHours.f a0 = some t) (hu : spec_geWheel.f a1 = some u) (hz : ¬ (t = true ∧ u = true)) :
    Calls Try.prog 12 #[.int .i64 a0, .int .i64 a1] w fun e w' => ∃ v0_ : Value, e = .returned (.tuple #[v0_, .bool false]) ∧ Kd.R k23 23 w' w.heap.size (fun _ => True) v0_ [] ∧ Below w.heap.size w w' := by
  have HB := Aside0.mk (Below.refl w.heap.size w)
  have HT := Aside0.mk ht
  have HU := Aside0.mk hu
  cases t with
  | false =>
    clear ht hu hz
    go_enter Try.func12, Try.ntmps12
    go_wp2_with (first | (go_at_call 41; (with_reducible refine (spec_diHours.calls a0 _ _ HT.out).mono ?_); rintro e w' ⟨rfl, ⟨nd, rfl⟩⟩) | (go_at_call 42; (with_reducible refine (spec_geWheel.calls a1 _ _ HU.out).mono ?_); rintro e w' ⟨rfl, ⟨nd, rfl⟩⟩))
    go_ret2
    exact ⟨_, rfl, Kd.R_nil _ _ _ _ _, (by repeat (first | (with_reducible first | exact HB.out | apply below_alloc | apply pw_below_drewN | apply below_drew1) | exact HB.out))⟩
  | true =>
    cases u with
    | false =>
      clear ht hu hz
      go_enter Try.func12, Try.ntmps12
      go_wp2_with (first | (go_at_call 41; (with_reducible refine (spec_diHours.calls a0 _ _ HT.out).mono ?_); rintro e w' ⟨rfl, ⟨nd, rfl⟩⟩) | (go_at_call 42; (with_reducible refine (spec_geWheel.calls a1 _ _ HU.out).mono ?_); rintro e w' ⟨rfl, ⟨nd, rfl⟩⟩))
      go_ret2
      exact ⟨_, rfl, Kd.R_nil _ _ _ _ _, (by repeat (first | (with_reducible first | exact HB.out | apply below_alloc | apply pw_below_drewN | apply below_drew1) | exact HB.out))⟩
    | true => exact absurd ⟨rfl, rfl⟩ hz

theorem spec_FirstMotionWork.calls (k : Nat) (a0 a1 : Int) (r1 : List S23) (r2 : Bool) (w : World) (h : spec_FirstMotionWork.f k a0 a1 = some (r1, r2)) :
    Calls Try.prog 12 #[.int .i64 a0, .int .i64 a1] w fun e w' => ∃ v0_ : Value, e = .returned (.tuple #[v0_, .bool r2]) ∧ Kd.R k23 23 w' w.heap.size (fun _ => True) v0_ r1 ∧ Below w.heap.size w w' := by
  unfold spec_FirstMotionWork.f at h
  obtain ⟨t, ht, h⟩ := Option.bind_eq_some_iff.mp h
  obtain ⟨u, hu, h⟩ := Option.bind_eq_some_iff.mp h
  by_cases z : t = true ∧ u = true
  · rw [if_pos z] at h
    obtain ⟨rows, hw, h3⟩ := Option.bind_eq_some_iff.mp h
    obtain ⟨o, ho, h4⟩ := Option.bind_eq_some_iff.mp h3
    obtain ⟨rfl, rfl⟩ := z
    split at ho
    · rename_i hl
      refine spec_FirstMotionWork.yes k a0 a1 rows o w ht hu hw hl ho r1 r2 (fun q => ?_) (fun q => ?_)
      · rw [if_pos q] at h4
        simp only [Option.some.injEq, Prod.mk.injEq] at h4
        exact ⟨h4.1.symm, h4.2.symm⟩
      · rw [if_neg q] at h4
        simp only [Option.some.injEq, Prod.mk.injEq] at h4
        exact ⟨h4.1.symm, h4.2.symm⟩
    · cases ho
  · rw [if_neg z] at h
    simp only [Option.some.injEq, Prod.mk.injEq] at h
    obtain ⟨rfl, rfl⟩ := h
    exact spec_FirstMotionWork.no a0 a1 t u w ht hu z

def laws_FnExactFirstMotionWork.f (k : Nat) (a0 a1 : Int) : Option Bool := (spec_FirstMotionWork.f k a0 a1).bind fun s => (impl_FirstMotionWork.f k a0 a1).bind fun i => (laws_eqPairS.f k i.1 s.1).bind fun e => (laws_markPairS.f k i.1 1).bind fun m => (laws_heldPairS.f k m.2 1).bind fun h => if i.2 = s.2 ∧ e = true ∧ h = m.1 ∧ ¬ h < 0 then some true else none
set_option maxHeartbeats 8000000 in
set_option maxRecDepth 100000 in
theorem laws_FnExactFirstMotionWork.calls (k : Nat) (a0 : Int) (a1 : Int) (r : Bool) (w : World) (h : laws_FnExactFirstMotionWork.f k a0 a1 = some r) :
    Calls Try.prog 4 #[.int .i64 a0, .int .i64 a1] w fun e w' => e = .returned (.bool r) ∧ Below w.heap.size w w' := by
  obtain ⟨⟨R, fine⟩, hs, h2⟩ := Option.bind_eq_some_iff.mp h
  obtain ⟨⟨R1, fine1⟩, hi, h3⟩ := Option.bind_eq_some_iff.mp h2
  obtain ⟨e0, he, h4⟩ := Option.bind_eq_some_iff.mp h3
  obtain ⟨⟨m1, R'⟩, hm, h5⟩ := Option.bind_eq_some_iff.mp h4
  obtain ⟨q1, hh, h6⟩ := Option.bind_eq_some_iff.mp h5
  clear h h2 h3 h4 h5
  by_cases z : fine1 = fine ∧ e0 = true ∧ q1 = m1 ∧ ¬ q1 < 0
  · rw [if_pos z] at h6
    obtain ⟨z1, z2, z3, z4⟩ := z
    subst z1 z2 z3
    obtain rfl := Option.some.inj h6
    have HS := Aside0.mk hs
    have HI := Aside0.mk hi
    have HE := Aside0.mk he
    have HM := Aside0.mk hm
    have HH := Aside0.mk hh
    have zb : decide (q1 < 0) = false := decide_eq_false z4
    have HH2 : Aside0 (∀ (A : Option Addr) (n c : Nat) (ww : World), n = R'.length → Kd.C k23 ww A R'.length R' → n ≤ c → Calls Try.prog 16 #[.slice A n c, .int .i64 1] ww fun e w' => e = .returned (.int .i64 q1) ∧ Drawn0 ww w') := ⟨fun A n c ww hn hr hc => by
      subst hn
      exact laws_heldPairS.calls k A c R' 1 q1 ww hr hc hh⟩
    clear hs hi he hm hh h6 z4
    have FLAG1 := Aside0.mk trivial
    go_enter Try.func4, Try.ntmps4
    go_wp2_with (first
      | (go_at_call 12; ((with_reducible refine (spec_FirstMotionWork.calls k a0 a1 R fine1 _ HS.out).mono ?_); rintro e w1 ⟨v0, rfl, hN, hb⟩; obtain ⟨A0, c0, rfl, hc, hC⟩ := Kd.R_reads hN; have HB0 := Aside0.mk hb; have HC0 := Aside0.mk hC; have HL0 := Aside0.mk hc; have HB := Aside0.mk (Below.refl w1.heap.size w1); clear hN hb hC hc))
      | (go_at_call 13; have f_ := FLAG1; clear FLAG1 f_; ((with_reducible refine (impl_FirstMotionWork.calls k a0 a1 R1 fine1 _ HI.out).mono ?_); rintro e w2 ⟨v1, rfl, hS, hb⟩; obtain ⟨A1, c1, rfl, hc, hC⟩ := Kd.R_reads hS; have HG0 := Aside0.mk (Kd.R_lower hS (below_size (by repeat (first | (with_reducible first | exact HB.out | apply below_alloc | apply pw_below_drewN | apply below_drew1) | exact HB.out)))); have n_ := Aside0.mk (below_step (by repeat (first | (with_reducible first | exact HB.out | apply below_alloc | apply pw_below_drewN | apply below_drew1) | exact HB.out)) hb); clear HB; have HB := n_; clear n_; have HGL := Aside0.mk hc; have HGC := Aside0.mk hC; clear hS hb hC hc; have FE1 := Aside0.mk trivial))
      | (go_at_call 14; have f_ := FE1; clear FE1 f_; ((with_reducible refine (laws_eqPairS.calls k A1 c1 R1 A0 c0 R true _ HGC.out HGL.out (Kd.C_below HC0.out (by repeat (first | (with_reducible first | exact HB.out | apply below_alloc | apply pw_below_drewN | apply below_drew1) | exact HB.out))) HL0.out HE.out).mono ?_); rintro e we1 ⟨rfl, hb⟩; have m_ := Aside0.mk (Kd.R_below (by (with_reducible repeat (first | apply Kd.R_alloc | apply Kd.R_drewN | apply Kd.R_drew)); exact HG0.out) hb); have n_ := Aside0.mk (below_step (by repeat (first | (with_reducible first | exact HB.out | apply below_alloc | apply pw_below_drewN | apply below_drew1) | exact HB.out)) hb); clear HB HG0; have HB := n_; have HG0 := m_; clear n_ m_ hb))
      | (go_at_call 15; ((with_reducible refine (laws_markPairS.calls k (fun _ => True) (.slice A1 R1.length c1) R1 1 q1 R' w1 _ (by repeat (first | (with_reducible first | exact HB.out | apply below_alloc | apply pw_below_drewN | apply below_drew1) | exact HB.out)) ?side1 HM.out).mono ?_); (case side1 => (with_reducible repeat (first | apply Kd.R_alloc | apply Kd.R_drewN | apply Kd.R_drew)); exact HG0.out); rintro e w3 ⟨rfl, hS, hb, hk⟩; clear HG0 HB hk; have HG0 := Aside0.mk (Kd.R_mono (ok' := fun _ => True) hS (fun _ _ => trivial)); have HLE := Aside0.mk (Kd.R_reads' hS).1; have HB := Aside0.mk hb; clear hS hb; have FLAG2 := Aside0.mk trivial))
      | (go_at_call 16; ((with_reducible refine (HH2.out A1 R1.length c1 _ HLE.out ?side1 HGL.out).mono ?_); (case side1 => refine R_C (e := 23) (base := w1.heap.size) (ok := fun _ => True) (n := R1.length) (c := c1) ?_; (with_reducible repeat (first | apply Kd.R_alloc | apply Kd.R_drewN | apply Kd.R_drew)); exact HG0.out); rintro e w' ⟨rfl, ⟨nd, rfl⟩⟩))
      | (go_at_call 13; have f_ := FLAG2; clear FLAG2 f_; ((with_reducible refine (impl_FirstMotionWork.calls k a0 a1 R1 fine1 _ HI.out).mono ?_); rintro e w4 ⟨v2, rfl, hS, hb⟩; obtain ⟨A2, c2, rfl, hc, hC⟩ := Kd.R_reads hS; have m_ := Aside0.mk (Kd.R_below (by (with_reducible repeat (first | apply Kd.R_alloc | apply Kd.R_drewN | apply Kd.R_drew)); exact HG0.out) hb); have n_ := Aside0.mk (below_step (by repeat (first | (with_reducible first | exact HB.out | apply below_alloc | apply pw_below_drewN | apply below_drew1) | exact HB.out)) hb); clear HB HG0; have HB := n_; have HG0 := m_; clear n_ m_; have HC2 := Aside0.mk hC; have HL2 := Aside0.mk hc; clear hS hb hC hc; have FE2 := Aside0.mk trivial))
      | (go_at_call 14; have f_ := FE2; clear FE2 f_; ((with_reducible refine (laws_eqPairS.calls k A2 c2 R1 A0 c0 R true _ HC2.out HL2.out (Kd.C_below HC0.out (by repeat (first | (with_reducible first | exact HB.out | apply below_alloc | apply pw_below_drewN | apply below_drew1) | exact HB.out))) HL0.out HE.out).mono ?_); rintro e we2 ⟨rfl, hb⟩; have m_ := Aside0.mk (Kd.R_below (by (with_reducible repeat (first | apply Kd.R_alloc | apply Kd.R_drewN | apply Kd.R_drew)); exact HG0.out) hb); have n_ := Aside0.mk (below_step (by repeat (first | (with_reducible first | exact HB.out | apply below_alloc | apply pw_below_drewN | apply below_drew1) | exact HB.out)) hb); clear HB HG0; have HB := n_; have HG0 := m_; clear n_ m_ hb)))
    go_ret
    exact ⟨rfl, below_step HB0.out (by repeat (first | (with_reducible first | exact HB.out | apply below_alloc | apply pw_below_drewN | apply below_drew1) | exact HB.out))⟩
  · rw [if_neg z] at h6
    cases h6
end Go.Proofs.Ytofjjfaaadllmaa.GFnExactFirstMotionWork
