-- Written by a program of this session (a copy of the kit's print program that takes contracts of one's own); Lean checks it.
import Derived.Test.YtkfcaldjepmffaaGFnDialsTurnedOfAllx0
import Derived.Test.YtkfcaldjepmffaaGFnDialsTurnedOfAllx1
import Derived.Test.YtkfcaldjepmffaaGFnDialsTurnedOfAllx4
import Derived.Test.YtkfcaldjepmffaaGFnDialsTurnedOfAllx5
import Derived.Test.YtkfcaldjepmffaaGFnDialsTurnedOfAllx6
import Derived.Test.YtkfcaldjepmffaaGFnDialsTurnedOfAllx9
import Derived.Test.YtkfcaldjepmffaaGFnDialsTurnedOfAllx10
namespace Go.Proofs.Ytkfcaldjepmffaa.GFnDialsTurnedOfAll
open Go.RowKit Go.Proofs.YtkfcaldjepmffaaW.PrintWords Go.Proofs.YtkfcaldjepmffaaW.PrintLast Go.Proofs.YtkfcaldjepmffaaW.PrintMore
attribute [local go_sem] max2_int min2_int max_two min_two max_three min_three max_four min_four   -- for this text's walks alone
set_option linter.unusedVariables false
set_option linter.unusedSimpArgs false

attribute [local go_sem high] eqA23
/-! ### impl_sorted: function 52 -/
set_option maxHeartbeats 8000000 in
set_option maxRecDepth 100000 in
theorem pdq_calls (k : Nat) (u : Value) (l0 : List S23) (a1 a2 a3 : Int) (r : List S23) (w0 w : World) (hB : Below w0.heap.size w0 w) (ho0 : Kd.R k23 23 w w0.heap.size (fun _ => True) u l0) (hl : wrap64 (a2 - a1) ≤ 12) (h : impl_Turn_91.f k l0 a1 a2 = some r) :
  Calls Try.prog 86 #[u, .int .i64 a1, .int .i64 a2, .int .i64 a3, .func (.func 75) #[] #[]] w fun e w' => e = .returned (.tuple #[]) ∧ Kd.R k23 23 w' w0.heap.size (fun _ => True) u r ∧ Below w0.heap.size w0 w' := by
 have HF := Aside0.mk h
 have HR := Aside0.mk ho0
 have HB := Aside0.mk hB
 have hlb : decide (wrap64 (a2 - a1) ≤ 12) = true := decide_eq_true hl
 clear h ho0 hB hl
 go_enter Try.func86, Try.ntmps86
 go_wp2
 go_loopg [1, 2] 1 (fun gk v1 v2 w' => v1 = .int .i64 a1 ∧ v2 = .int .i64 a2 ∧ Aside0 (Kd.R k23 23 w' w0.heap.size (fun _ => True) u l0) ∧ Aside0 (Below w0.heap.size w0 w') ∧ gk = 1)
 case atStart => exact ⟨rfl, rfl, ⟨(by (with_reducible repeat (first | apply Kd.R_alloc | apply Kd.R_drewN | apply Kd.R_drew)); exact HR.out)⟩, hb_ HB, rfl⟩
 case round =>
  clear HR HB
  obtain ⟨rfl, rfl, HR, HB, rfl⟩ := hrel
  go_wp2_with (first | (go_at_call 91; (with_reducible refine (impl_Turn_91.calls k (fun _ => True) u l0 a1 a2 r w0 _ (ho_ HB) (by (with_reducible repeat (first | apply Kd.R_alloc | apply Kd.R_drewN | apply Kd.R_drew)); exact HR.out) HF.out).mono ?_); rintro e w1 ⟨rfl, hR, hb, _⟩; have HR1 := Aside0.mk (Kd.R_mono (ok' := fun _ => True) hR (fun _ _ => trivial)); have HB1 := Aside0.mk hb; clear hR hb))
  (first | go_end0 | ((try simp only [Exit.inBlock, Exit.then]); refine bodyPost_ret (results_none rfl _ _ _) rfl ?_))
  exact ⟨rfl, (by (with_reducible repeat (first | apply Kd.R_alloc | apply Kd.R_drewN | apply Kd.R_drew)); exact HR1.out), HB1.out⟩
set_option maxHeartbeats 8000000 in
set_option maxRecDepth 100000 in
theorem sort_calls (k : Nat) (u : Value) (l0 : List S23) (r : List S23) (w0 w : World) (hB : Below w0.heap.size w0 w) (ho0 : Kd.R k23 23 w w0.heap.size (fun _ => True) u l0) (hl : l0.length ≤ 12) (h : impl_Turn_91.f k l0 0 (l0.length : Int) = some r) :
  Calls Try.prog 74 #[u, .func (.func 75) #[] #[]] w fun e w' => e = .returned (.tuple #[]) ∧ Kd.R k23 23 w' w0.heap.size (fun _ => True) u r ∧ Below w0.heap.size w0 w' := by
 obtain ⟨A, c, rfl⟩ := Kd.R_slice ho0
 have HF := Aside0.mk h
 have HR := Aside0.mk ho0
 have HB := Aside0.mk hB
 have HL := Aside0.mk hl
 clear h ho0 hB hl
 go_enter Try.func74, Try.ntmps74
 go_wp2_with (first
  | (go_at_call 87; (refine (Sort.bits_Len _ _ ?h0 ?h1).mono ?_; (case h0 => have := HL.out; first | omega | (simp [IntKind.wrap, IntKind.signed, IntKind.bits]; omega)); (case h1 => have := HL.out; first | omega | (simp [IntKind.wrap, IntKind.signed, IntKind.bits]; omega)); rintro e w' ⟨rfl, rfl⟩))
  | (go_at_call 86; (with_reducible refine (pdq_calls k (.slice A l0.length c) l0 0 (l0.length : Int) _ r w0 _ (ho_ HB) (by (with_reducible repeat (first | apply Kd.R_alloc | apply Kd.R_drewN | apply Kd.R_drew)); exact HR.out) ?hl HF.out).mono ?_); (case hl => have := HL.out; unfold wrap64; omega); rintro e w1 ⟨rfl, hR, hb⟩; have HR1 := Aside0.mk hR; have HB1 := Aside0.mk hb; clear hR hb))
 go_end0
 exact ⟨rfl, (by (with_reducible repeat (first | apply Kd.R_alloc | apply Kd.R_drewN | apply Kd.R_drew)); exact HR1.out), HB1.out⟩

theorem run_clear_two (w : World) (b o c : Nat) (hc0 : (w.cell? ⟨b, o, none⟩).isSome = true) (hc1 : (w.cell? ⟨b, o + 1, none⟩).isSome = true) (hf0 : w.frozen? ⟨b, o, none⟩ = false) (hf1 : w.frozen? ⟨b, o + 1, none⟩ = false) :
  (Builtin.clear_ #[34] 0 #[.slice (some ⟨b, o, none⟩) 1 c]).run Try.prog w = .ok (.tuple #[]) (w.setCells b o [.int .i64 0, .int .i64 0]) := by
 have hv : ∀ w, (zeroValue 23).run Try.prog w = .ok (.agg #[.int .i64 0, .int .i64 0]) w := fun w => by
  have hi := info23
  cases hq : Try.prog.info? 23 with
  | none =>
   rw [hq] at hi
   cases hi
  | some i =>
   rw [hq] at hi
   simp only [Option.map_some, Option.some.injEq, Prod.mk.injEq] at hi
   simp [zeroValue, typeInfo, hq, hi.1]
 have hzc : (Builtin.zeroCells (Value.agg #[.int .i64 0, .int .i64 0]).cells 1).toList = [.int .i64 0, .int .i64 0] := by (simp [Builtin.zeroCells, Value.cells]; rfl)
 have hst := run_storeCells_cells (P := Try.prog) b o [.int .i64 0, .int .i64 0] 0 w (by
  intro j hj
  match j, hj with
  | 0, _ => simpa using hc0
  | 1, _ => simpa using hc1) (by
  intro j hj
  match j, hj with
  | 0, _ => simpa using hf0
  | 1, _ => simpa using hf1) (by
  intro v hv'
  simp at hv'
  subst hv'
  rfl)
 simp only [Nat.add_zero] at hst
 simp [Builtin.clear_, run_underlying Try.underlying34, hv, hzc, hst]
def cpt : List S23 → List S23
 | [p, q] => if q.f0 = p.f0 ∧ q.f1 = p.f1 then [p] else [p, q]
 | s => s

theorem eq23_ (w : World) (a b c d : Int) : (binOp .eql 23 (.agg #[.int .i64 a, .int .i64 b]) (.agg #[.int .i64 c, .int .i64 d])).run Try.prog w = .ok (.bool ((a == c) && (b == d))) w := by
 have h := eqA23 9998 w a c b d
 simp only [binOp]
 simp [Op.equal, Op.maxDepth, h]
set_option maxHeartbeats 8000000 in
set_option maxRecDepth 100000 in
theorem cpt_calls (u : Value) (l : List S23) (w0 w : World) (hB : Below w0.heap.size w0 w) (ho0 : Kd.R k23 23 w w0.heap.size (fun _ => True) u l) (hl : l.length ≤ 2) :
  Calls Try.prog 76 #[u] w fun e w' => ∃ v0_ : Value, e = .returned v0_ ∧ Kd.R k23 23 w' w0.heap.size (fun _ => True) v0_ (cpt l) ∧ Below w0.heap.size w0 w' := by
 have hu23 := Try.underlying23
 obtain ⟨A, c, rfl⟩ := Kd.R_slice ho0
 have HR := Aside0.mk ho0
 have HB := Aside0.mk hB
 clear ho0 hB
 by_cases z : l.length < 2
 ·
  have e : cpt l = l := by
   match l, z with
   | [], _ => rfl
   | [p], _ => rfl
  rw [e]
  have zb : decide ((l.length : Int) < 2) = true := decide_eq_true (by omega)
  clear z e hl
  go_enter Try.func76, Try.ntmps76
  go_wp2
  go_ret
  exact ⟨_, rfl, (by (with_reducible repeat (first | apply Kd.R_alloc | apply Kd.R_drewN | apply Kd.R_drew)); exact HR.out), (ho_ HB)⟩
 ·
  obtain ⟨p, q, rfl⟩ : ∃ p q, l = [p, q] := by
   cases l with
   | nil => exact absurd (show ([] : List S23).length < 2 by simp) z
   | cons p l =>
    cases l with
    | nil => exact absurd (show [p].length < 2 by simp) z
    | cons q l =>
     cases l with
     | nil => exact ⟨p, q, rfl⟩
     | cons _ _ => simp at hl
  clear z hl
  obtain ⟨g, cap, e0, gb, gl, cl, hG⟩ := Kd.R_form HR.out (by simp)
  injection e0 with e1 e2 e3
  subst e1 e3
  have hc2 : 2 ≤ c := by
   have := (Kd.R_reads' HR.out).2.1
   simpa using this
  have hcA : (c = 1) = False := eq_false (by omega)
  have hcB : (c - 1 = 0) = False := eq_false (by omega)
  have hcC : (c ≤ 1) = False := eq_false (by omega)
  have hcD : ((c : Int) < 1) = False := eq_false (by omega)
  have hcE : ((1 : Int) ≤ (c : Int)) = True := eq_true (by omega)
  clear e2 gb gl hG cl hc2
  have GB := Aside0.mk (show w0.heap.size ≤ g from Kd.R_base HR.out g rfl)
  have HS : Aside0 (∀ ww, Kd.R k23 23 ww w0.heap.size (fun _ => True) (.slice (some ⟨g, 0, none⟩) [p, q].length c) [p, q] → (ww.cell? ⟨g, 0, none⟩ = some (.int .i64 p.f0) ∧ ww.cell? ⟨g, 1, none⟩ = some (.int .i64 p.f1) ∧ ww.cell? ⟨g, 2, none⟩ = some (.int .i64 q.f0) ∧ ww.cell? ⟨g, 3, none⟩ = some (.int .i64 q.f1)) ∧ ww.frozen? ⟨g, 2, none⟩ = false ∧ ww.frozen? ⟨g, 3, none⟩ = false) := ⟨fun ww h => by
   obtain ⟨c0, hcl0, hM0, hcc0, hfr0⟩ := Kd.R_elem h z23 0 (by omega) (by simp)
   obtain ⟨c1, hcl1, hM1, hcc1, hfr1⟩ := Kd.R_elem h z23 1 (by omega) (by simp)
   obtain rfl := k23_openM hM0
   obtain rfl := k23_openM hM1
   exact ⟨⟨hcc0 0 _ rfl, hcc0 1 _ rfl, hcc1 0 _ rfl, hcc1 1 _ rfl⟩, hfr1 0, hfr1 1⟩⟩
  by_cases e : q.f0 = p.f0 ∧ q.f1 = p.f1
  ·
   have ec : cpt [p, q] = [p] := if_pos e
   rw [ec]
   clear ec
   have HE := Aside0.mk e
   clear e
   go_enter Try.func76, Try.ntmps76
   go_wp2
   go_loopg [3] 1 (fun gk v3 w' => v3 = .int .i64 1 ∧ Aside0 (Kd.R k23 23 w' w0.heap.size (fun _ => True) (.slice (some ⟨g, 0, none⟩) [p, q].length c) [p, q]) ∧ Aside0 (Below w0.heap.size w0 w') ∧ gk = 1)
   case atStart => exact ⟨rfl, ⟨(by (with_reducible repeat (first | apply Kd.R_alloc | apply Kd.R_drewN | apply Kd.R_drew)); exact HR.out)⟩, hb_ HB, rfl⟩
   case round =>
    clear HR HB
    obtain ⟨rfl, HR, HB, rfl⟩ := hrel
    obtain ⟨⟨x0, x1, x2, x3⟩, f2, f3⟩ := HS.out _ HR.out
    have hq_ : ∀ ww, (binOp .eql 23 (.agg #[.int .i64 q.f0, .int .i64 q.f1]) (.agg #[.int .i64 p.f0, .int .i64 p.f1])).run Try.prog ww = .ok (.bool true) ww := fun ww => by
     have := eq23_ ww q.f0 q.f1 p.f0 p.f1
     rw [this, beq_iff_eq.2 HE.out.1, beq_iff_eq.2 HE.out.2]
     rfl
    go_wp2
    go_region
    all_goals (try go_wp2)
    all_goals (go_loopg [3, 5] 1 (fun gk v3 v5 w' => v3 = .int .i64 1 ∧ v5 = .int .i64 1 ∧ Aside0 (Kd.R k23 23 w' w0.heap.size (fun _ => True) (.slice (some ⟨g, 0, none⟩) [p, q].length c) [p, q]) ∧ Aside0 (Below w0.heap.size w0 w') ∧ gk = 1))
    all_goals (try (case atStart => exact ⟨rfl, rfl, ⟨(by (with_reducible repeat (first | apply Kd.R_alloc | apply Kd.R_drewN | apply Kd.R_drew)); exact HR.out)⟩, hb_ HB, rfl⟩))
    all_goals (clear HR HB x0 x1 x2 x3 f2 f3; obtain ⟨rfl, rfl, HR, HB, rfl⟩ := hrel)
    all_goals (obtain ⟨⟨x0, x1, x2, x3⟩, f2, f3⟩ := HS.out _ HR.out)
    all_goals (have hcl_ : ∀ cc, (Builtin.clear_ #[34] 0 #[.slice (some ⟨g, 2, none⟩) 1 cc]).run Try.prog wr = .ok (.tuple #[]) (wr.setCells g 2 [.int .i64 0, .int .i64 0]) := fun cc => run_clear_two wr g 2 cc (by rw [x2]; rfl) (by rw [x3]; rfl) f2 f3)
    all_goals go_wp2
    all_goals go_ret
    all_goals refine ⟨_, rfl, ?_, ?_⟩
    all_goals first
     | (show Below w0.heap.size w0 ((wr.setCell ⟨g, 2, none⟩ (.int .i64 0)).setCell ⟨g, 3, none⟩ (.int .i64 0)); exact below_set (below_set HB.out GB.out) GB.out)
     | (obtain ⟨ce, hcl, hM, hcc, hfr⟩ := Kd.R_elem HR.out z23 1 (by omega) (by simp); obtain rfl := k23_openM hM; have HP := (Kd.R_seg HR.out 1 (by omega) (by simp) (seg := [.int .i64 0, .int .i64 0]) (j := 0) hcl hcc (show 2 ≤ 2 from by decide) (x' := (⟨0, 0⟩ : S23)) (k23_mkM _ _ _ (⟨0, 0⟩ : S23)) (fun _ hk => hk)).1; exact Kd.R_take (m := 1) HP (by simp))
  ·
   have ec : cpt [p, q] = [p, q] := if_neg e
   rw [ec]
   clear ec
   have HE := Aside0.mk e
   clear e
   go_enter Try.func76, Try.ntmps76
   go_wp2
   go_loopg [3] 2 (fun gk v3 w' => ∃ i : Int, v3 = .int .i64 i ∧ Aside0 (Kd.R k23 23 w' w0.heap.size (fun _ => True) (.slice (some ⟨g, 0, none⟩) [p, q].length c) [p, q]) ∧ Aside0 (Below w0.heap.size w0 w') ∧ (i = 1 ∧ gk = 2 ∨ i = 2 ∧ gk = 1))
   case atStart => exact ⟨1, rfl, ⟨(by (with_reducible repeat (first | apply Kd.R_alloc | apply Kd.R_drewN | apply Kd.R_drew)); exact HR.out)⟩, hb_ HB, Or.inl ⟨rfl, rfl⟩⟩
   case round =>
    clear HR HB
    obtain ⟨i, rfl, HR, HB, ⟨rfl, rfl⟩ | ⟨rfl, rfl⟩⟩ := hrel
    ·
     obtain ⟨⟨x0, x1, x2, x3⟩, f2, f3⟩ := HS.out _ HR.out
     have hq_ : ∀ ww, (binOp .eql 23 (.agg #[.int .i64 q.f0, .int .i64 q.f1]) (.agg #[.int .i64 p.f0, .int .i64 p.f1])).run Try.prog ww = .ok (.bool false) ww := fun ww => by
      rw [eq23_ ww q.f0 q.f1 p.f0 p.f1]
      have : (q.f0 == p.f0 && q.f1 == p.f1) = false := by
       rw [Bool.and_eq_false_iff]
       by_cases a : q.f0 = p.f0
       ·
        exact Or.inr (beq_eq_false_iff_ne.2 fun b => HE.out ⟨a, b⟩)
       ·
        exact Or.inl (beq_eq_false_iff_ne.2 a)
      rw [this]
     go_wp2
     go_region
     all_goals (try go_wp2)
     all_goals (go_roundg 1)
     all_goals (try (case measure => omega))
     all_goals exact ⟨2, rfl, ⟨(by (with_reducible repeat (first | apply Kd.R_alloc | apply Kd.R_drewN | apply Kd.R_drew)); exact HR.out)⟩, hb_ HB, Or.inr ⟨rfl, rfl⟩⟩
    ·
     go_wp2
     go_ret
     exact ⟨_, rfl, (by (with_reducible repeat (first | apply Kd.R_alloc | apply Kd.R_drewN | apply Kd.R_drew)); exact HR.out), (ho_ HB)⟩

def impl_sorted.f (k : Nat) (l0 : List S23) : Option (List S23) := if l0.length ≤ 2 then (impl_Turn_73.f l0).bind fun c => if c.length ≤ 2 then (impl_Turn_91.f k c 0 (c.length : Int)).bind fun s => if s.length ≤ 2 then some (cpt s) else none else none else none
theorem impl_sorted.mono : ∀ a0 k, LeO (impl_sorted.f k a0) (impl_sorted.f (k + 1) a0) := fun a0 k => by
 unfold impl_sorted.f
 exact LeO.ite (LeO.bind (LeO.refl _) (fun _ => LeO.ite (LeO.bind (impl_Turn_91.mono _ _ _ _) (fun _ => LeO.refl _)) (LeO.refl _))) (LeO.refl _)
set_option maxHeartbeats 8000000 in
set_option maxRecDepth 100000 in
theorem impl_sorted.calls (k : Nat) (A0 : Option Addr) (c0 : Nat) (l0 : List (S23)) (r : List (S23)) (w : World) (hr0 : Kd.C k23 w A0 l0.length l0) (hc0 : l0.length ≤ c0) (h : impl_sorted.f k l0 = some r) :
  Calls Try.prog 52 #[.slice A0 l0.length c0] w fun e w' => ∃ v0_ : Value, e = .returned (v0_) ∧ Kd.R k23 23 w' w.heap.size (fun _ => True) v0_ r ∧ Below w.heap.size w w' := by
 unfold impl_sorted.f at h
 by_cases z0 : l0.length ≤ 2
 ·
  rw [if_pos z0] at h
  obtain ⟨cl, h1, h⟩ := Option.bind_eq_some_iff.mp h
  by_cases z1 : cl.length ≤ 2
  ·
   rw [if_pos z1] at h
   obtain ⟨sl, h2, h⟩ := Option.bind_eq_some_iff.mp h
   by_cases z2 : sl.length ≤ 2
   ·
    rw [if_pos z2] at h
    obtain rfl := Option.some.inj h
    have H1 := Aside0.mk h1
    have H2 := Aside0.mk h2
    have Z1 := Aside0.mk z1
    have Z2 := Aside0.mk z2
    have HR0 := Aside0.mk hr0
    have HC0 := Aside0.mk hc0
    have HB := Aside0.mk (Below.refl w.heap.size w)
    clear h h1 h2 z0 z1 z2 hr0 hc0
    go_enter Try.func52, Try.ntmps52
    go_wp2_with (first
     | (go_at_call 73; ((with_reducible refine (impl_Turn_73.calls A0 c0 l0 cl _ ?side1 HC0.out H1.out).mono ?_); (case side1 => repeat (first | exact (Kd.C_below HR0.out (ho_ HB)) | (with_reducible refine Kd.C_alloc ?_ _) | (with_reducible refine Kd.C_drewN ?_ _) | (with_reducible refine Kd.C_drew ?_))); rintro e w1 ⟨v1, rfl, hR, hb⟩; have HR1 := Aside0.mk (Kd.R_lower hR (bs_ HB)); have n_ := hs HB hb; clear HB; have HB := n_; clear n_ hR hb))
     | (go_at_call 74; ((with_reducible refine (sort_calls k v1 cl sl w _ (ho_ HB) (by (with_reducible repeat (first | apply Kd.R_alloc | apply Kd.R_drewN | apply Kd.R_drew)); exact HR1.out) ?hl H2.out).mono ?_); (case hl => have := Z1.out; omega); rintro e w2 ⟨rfl, hR, hb⟩; clear HB; have HR2 := Aside0.mk hR; have HB := Aside0.mk hb; clear hR hb))
     | (go_at_call 76; ((with_reducible refine (cpt_calls v1 sl w _ (ho_ HB) (by (with_reducible repeat (first | apply Kd.R_alloc | apply Kd.R_drewN | apply Kd.R_drew)); exact HR2.out) Z2.out).mono ?_); rintro e w3 ⟨v2, rfl, hR, hb⟩; clear HB; have HR3 := Aside0.mk hR; have HB := Aside0.mk hb; clear hR hb)))
    go_ret
    exact ⟨_, rfl, (by (with_reducible repeat (first | apply Kd.R_alloc | apply Kd.R_drewN | apply Kd.R_drew)); exact HR3.out), (ho_ HB)⟩
   ·
    rw [if_neg z2] at h
    cases h
  ·
   rw [if_neg z1] at h
   cases h
 ·
  rw [if_neg z0] at h
  cases h

/-! ### impl_TimesInGlass: function 36 -/
def impl_TimesInGlass.f (k : Nat) (a0 : Int) (a1_0 : Int) (a1_1 : Int) (a1_2 : Int) (a1_3 : Int) : Option ((List (S23)) × Bool) := (impl_isSeenOf.f k a0 a1_0 a1_1 a1_2 a1_3).bind fun t322 => (if t322 = true then ((impl_isTrue.f k a0 a1_0 a1_1 a1_2 a1_3).bind fun t323 => (if t323 = true then ((impl_Turn_mirror.f k a1_0 a1_1).bind fun bt324 => ((impl_sorted.f k (([(⟨a1_0, a1_1⟩ : S23), (⟨bt324.1, bt324.2⟩ : S23)] : List (S23)))).bind fun t329 => (some (t329, true)))) else (some ((([] : List (S23))), true)))) else (some (([] : List (S23)), false)))
theorem impl_TimesInGlass.mono : ∀ a0 a1 a2 a3 a4 k, LeO (impl_TimesInGlass.f k a0 a1 a2 a3 a4) (impl_TimesInGlass.f (k + 1) a0 a1 a2 a3 a4) := by
 intro a0 a1 a2 a3 a4 k
 unfold impl_TimesInGlass.f
 repeat' first
   | (with_reducible exact impl_Turn_mirror.mono _ _ _)
   | (with_reducible exact impl_isSeenOf.mono _ _ _ _ _ _)
   | (with_reducible exact impl_isTrue.mono _ _ _ _ _ _)
   | (with_reducible exact impl_sorted.mono _ _)
   | (with_reducible exact LeO.refl _)
   | (with_reducible exact LeO.none _)
   | (with_reducible refine LeO.ite ?_ ?_)
   | (with_reducible refine LeO.bind ?_ (fun _ => ?_))
   | exact impl_Turn_mirror.mono _ _ _
   | exact impl_isSeenOf.mono _ _ _ _ _ _
   | exact impl_isTrue.mono _ _ _ _ _ _
   | exact impl_sorted.mono _ _
   | exact LeO.none _
   | refine LeO.ite ?_ ?_
   | refine LeO.bind ?_ (fun _ => ?_)
def impl_TimesInGlass.T5 : Bool × List (List Nat × List Nat) := (true, [([], []), ([0], [0]), ([], []), ([2], [2]), ([3], [3]), ([1, 4], [1, 4]), ([5, 4], [5]), ([6, 6, 0, 1, 2, 3, 4, 5, 6], [6]), ([7, 0, 1, 2, 3, 4, 5, 6, 7], [])])
def impl_TimesInGlass.B5 : List Nat := [0, 1, 0, 4, 12, 31, 63, 127, 255]
theorem impl_TimesInGlass.tab5 : rtab .any (opsOf Try.f36 5) = impl_TimesInGlass.T5 := by kernel_rfl
theorem impl_TimesInGlass.bits5 : waitsOk impl_TimesInGlass.T5.2 impl_TimesInGlass.B5 = true := by kernel_rfl
set_option maxHeartbeats 8000000 in
set_option maxRecDepth 100000 in
theorem impl_TimesInGlass.calls (k : Nat) (a0 : Int) (a1_0 : Int) (a1_1 : Int) (a1_2 : Int) (a1_3 : Int) (r1 : List (S23)) (r2 : Bool) (w : World) (h : impl_TimesInGlass.f k a0 a1_0 a1_1 a1_2 a1_3 = some (r1, r2)) :
  Calls Try.prog 36 #[.int .i64 a0, .agg #[.int .i64 a1_0, .int .i64 a1_1, .int .i64 a1_2, .int .i64 a1_3]] w fun e w' => ∃ v0_ : Value, e = .returned (.tuple #[v0_, .bool r2]) ∧ Kd.R k23 23 w' w.heap.size (fun _ => True) v0_ r1 ∧ Below w.heap.size w w' := by
 have hu25 := Try.underlying25
 have hu23 := Try.underlying23
 have HB := Aside0.mk (Below.refl w.heap.size w)
 have H : ((impl_isSeenOf.f k a0 a1_0 a1_1 a1_2 a1_3).bind fun t322 => (if t322 = true then ((impl_isTrue.f k a0 a1_0 a1_1 a1_2 a1_3).bind fun t323 => (if t323 = true then ((impl_Turn_mirror.f k a1_0 a1_1).bind fun bt324 => ((impl_sorted.f k (([(⟨a1_0, a1_1⟩ : S23), (⟨bt324.1, bt324.2⟩ : S23)] : List (S23)))).bind fun t329 => (some (t329, true)))) else (some ((([] : List (S23))), true)))) else (some (([] : List (S23)), false)))) = some (r1, r2) := h
 clear h
 replace H := Option.bind_eq_some_iff.mp H
 obtain ⟨t322, A30, H⟩ := H
 replace H : (if t322 = true then ((impl_isTrue.f k a0 a1_0 a1_1 a1_2 a1_3).bind fun t323 => (if t323 = true then ((impl_Turn_mirror.f k a1_0 a1_1).bind fun bt324 => ((impl_sorted.f k (([(⟨a1_0, a1_1⟩ : S23), (⟨bt324.1, bt324.2⟩ : S23)] : List (S23)))).bind fun t329 => (some (t329, true)))) else (some ((([] : List (S23))), true)))) else (some (([] : List (S23)), false))) = some (r1, r2) := H
 have A3 := Aside0.mk A30
 clear A30
 by_cases c4 : t322 = true
 ·
  subst c4
  have H1 : ((impl_isTrue.f k a0 a1_0 a1_1 a1_2 a1_3).bind fun t323 => (if t323 = true then ((impl_Turn_mirror.f k a1_0 a1_1).bind fun bt324 => ((impl_sorted.f k (([(⟨a1_0, a1_1⟩ : S23), (⟨bt324.1, bt324.2⟩ : S23)] : List (S23)))).bind fun t329 => (some (t329, true)))) else (some ((([] : List (S23))), true)))) = some (r1, r2) := by rw [if_pos rfl] at H; exact H
  clear H
  have H := H1
  clear H1
  replace H := Option.bind_eq_some_iff.mp H
  obtain ⟨t323, A50, H⟩ := H
  replace H : (if t323 = true then ((impl_Turn_mirror.f k a1_0 a1_1).bind fun bt324 => ((impl_sorted.f k (([(⟨a1_0, a1_1⟩ : S23), (⟨bt324.1, bt324.2⟩ : S23)] : List (S23)))).bind fun t329 => (some (t329, true)))) else (some ((([] : List (S23))), true))) = some (r1, r2) := H
  have A5 := Aside0.mk A50
  clear A50
  by_cases c6 : t323 = true
  ·
   subst c6
   have H1 : ((impl_Turn_mirror.f k a1_0 a1_1).bind fun bt324 => ((impl_sorted.f k (([(⟨a1_0, a1_1⟩ : S23), (⟨bt324.1, bt324.2⟩ : S23)] : List (S23)))).bind fun t329 => (some (t329, true)))) = some (r1, r2) := by rw [if_pos rfl] at H; exact H
   clear H
   have H := H1
   clear H1
   replace H := Option.bind_eq_some_iff.mp H
   obtain ⟨⟨t324, t325⟩, A70, H⟩ := H
   replace H : ((impl_sorted.f k (([(⟨a1_0, a1_1⟩ : S23), (⟨t324, t325⟩ : S23)] : List (S23)))).bind fun t329 => (some (t329, true))) = some (r1, r2) := H
   have A7 := Aside0.mk A70
   clear A70
   obtain ⟨y326, hy326⟩ : ∃ y_ : List (S23), y_ = (([(⟨a1_0, a1_1⟩ : S23), (⟨t324, t325⟩ : S23)] : List (S23))) := ⟨_, rfl⟩
   replace H : ((impl_sorted.f k y326).bind fun t329 => (some (t329, true))) = some (r1, r2) := by first | (rw [hy326]; with_reducible exact H) | (have H2_ := (Option.bind_some _ _).symm.trans H; rw [hy326]; with_reducible exact H2_) | (have H2_ := (Option.bind_some _ _).symm.trans H; with_reducible exact H2_) | with_reducible exact H | (rw [hy326]; exact H) | exact H
   have Ny326 := Aside0.mk hy326
   clear hy326
   replace H := Option.bind_eq_some_iff.mp H
   obtain ⟨t329, A80, H⟩ := H
   replace H : (some (t329, true)) = some (r1, r2) := H
   have A8 := Aside0.mk A80
   clear A80
   as_aux_lemma =>
    simp only [Option.some.injEq, Prod.mk.injEq] at H
    obtain ⟨rfl, rfl⟩ := H
    go_enter Try.func36, Try.ntmps36
    try go_wp2_with (first | ((with_reducible refine gate_dst (N := 3) rfl ?_); refine be_ (N := 3) (cs := #[.int .i64 a1_0, .int .i64 a1_1, .int .i64 a1_2, .int .i64 a1_3]) (t := 25) ?_; intro gb321 hg w9 hbox hb; have BK321 := Aside0.mk (hbox); have GW321 := ge_ HB hg; have GE321 := ge_ HB hg; replace HB := hs HB hb; clear hb hbox hg; have hcz10_0 := cz_ BK321 0 (.int .i64 a1_0); have hcz10_1 := cz_ BK321 1 (.int .i64 a1_1); have hcz10_2 := cz_ BK321 2 (.int .i64 a1_2); have hcz10_3 := cz_ BK321 3 (.int .i64 a1_3); have hfz10_0 := blk_frozen BK321.out 0; have hfz10_1 := blk_frozen BK321.out 1; have hfz10_2 := blk_frozen BK321.out 2; have hfz10_3 := blk_frozen BK321.out 3) | ((with_reducible refine gate_callee (f := 50) rfl ?_); refine gs_ (some 8) Try.func50 #[.int .i64 a0, .agg #[.int .i64 a1_0, .int .i64 a1_1, .int .i64 a1_2, .int .i64 a1_3]] ?_; (with_reducible refine (impl_isSeenOf.calls k a0 a1_0 a1_1 a1_2 a1_3 true _ A3.out).mono ?_); rintro e w11 ⟨rfl, hb⟩; refine ⟨_, rfl, ?_⟩; replace BK321 := bb BK321 hb; replace HB := hs HB hb; (try clear hb); (try clear hb2); (try clear hk); (try clear hi); have hcz12_0 := cz_ BK321 0 (.int .i64 a1_0); have hcz12_1 := cz_ BK321 1 (.int .i64 a1_1); have hcz12_2 := cz_ BK321 2 (.int .i64 a1_2); have hcz12_3 := cz_ BK321 3 (.int .i64 a1_3); have hfz12_0 := blk_frozen BK321.out 0; have hfz12_1 := blk_frozen BK321.out 1; have hfz12_2 := blk_frozen BK321.out 2; have hfz12_3 := blk_frozen BK321.out 3) | ((with_reducible refine gate_callee (f := 51) rfl ?_); refine gs_ (some 12) Try.func51 #[.int .i64 a0, .agg #[.int .i64 a1_0, .int .i64 a1_1, .int .i64 a1_2, .int .i64 a1_3]] ?_; (with_reducible refine (impl_isTrue.calls k a0 a1_0 a1_1 a1_2 a1_3 true _ A5.out).mono ?_); rintro e w13 ⟨rfl, hb⟩; refine ⟨_, rfl, ?_⟩; replace BK321 := bb BK321 hb; replace HB := hs HB hb; (try clear hb); (try clear hb2); (try clear hk); (try clear hi)))
    replace BK321 := Aside0.mk (blk_drew BK321.out)
    replace HB := Aside0.mk (below_drew1 HB.out)
    refine start_ (n := 9) (S := fun w' => w'.cell? ⟨gb321, 0, none⟩ = some (.int .i64 a1_0) ∧ w'.cell? ⟨gb321, 1, none⟩ = some (.int .i64 a1_1) ∧ w'.cell? ⟨gb321, 2, none⟩ = some (.int .i64 a1_2) ∧ w'.cell? ⟨gb321, 3, none⟩ = some (.int .i64 a1_3)) (ds := []) #[false, false, false, false, false, false, false, false, false] (by kernel_rfl) rfl rfl ⟨(blk_cell BK321.out 0).trans rfl, (blk_cell BK321.out 1).trans rfl, (blk_cell BK321.out 2).trans rfl, (blk_cell BK321.out 3).trans rfl⟩ (fun hHeld => ?_); refine with_tabW impl_TimesInGlass.tab5 impl_TimesInGlass.bits5 (fun HT_ HW_ => ?_)
    generalize w13.drew = w14 at BK321 HB hHeld ⊢
    refine pu_ 0 (some 15) HT_.out ?_
    refine pu_ 2 (some 17) HT_.out ?_
    refine take_ (i := 1) (N := some 16) (v := ?_) (a' := ?_) #[true, true, true, false, false, false, false, false, false] rfl rfl (take_ofW HT_.out HW_.out (by kernel_rfl)) (fun _ _ _ h => h) (Or.inl ⟨by rfl, ?_⟩) hHeld ?_ ?_
    rotate_left
    ·
     rintro w' ⟨s0, s1, s2, s3⟩
     go_simp
     with_reducible rfl
    rotate_left
    ·
     simp only [Act.put, List.setIfInBounds_toArray, List.set_cons_zero, List.set_cons_succ, i64_w, i32_w]
     rfl
    refine take_ (i := 3) (N := some 18) (v := ?_) (a' := ?_) #[true, true, true, true, false, false, false, false, false] rfl rfl (take_ofW HT_.out HW_.out (by kernel_rfl)) (fun _ _ _ h => h) (Or.inl ⟨by rfl, ?_⟩) hHeld ?_ ?_
    rotate_left
    ·
     rintro w' ⟨s0, s1, s2, s3⟩
     go_simp
     with_reducible rfl
    rotate_left
    ·
     simp only [Act.put, List.setIfInBounds_toArray, List.set_cons_zero, List.set_cons_succ, i64_w, i32_w]
     rfl
    refine one_ (i := 4) (N := some 19) #[true, true, true, true, true, false, false, false, false] rfl rfl (one_of HT_.out (by kernel_rfl)) (by decide) (fun K hK => ?_)
    refine goes_ Try.func60 (by kernel_rfl) rfl #[.agg #[.int .i64 a1_0, .int .i64 a1_1]] (by rfl) rfl rfl (by (try simp only [List.map_toArray, List.map_cons, List.map_nil]); first | done | rfl | (simp only [List.length_drop, List.length_take]; rfl)) ?_
    with_reducible refine (impl_Turn_mirror.calls k a1_0 a1_1 t324 t325 _ A7.out).mono ?_
    rintro e w15 ⟨rfl, hb⟩
    refine ⟨_, rfl, ?_⟩
    replace BK321 := bb BK321 hb
    replace HB := hs HB hb
    (try clear hb)
    (try clear hb2)
    (try clear hk)
    (try clear hi)
    refine hK.out _ _ ⟨(blk_cell BK321.out 0).trans rfl, (blk_cell BK321.out 1).trans rfl, (blk_cell BK321.out 2).trans rfl, (blk_cell BK321.out 3).trans rfl⟩ (fun hHeld => ?_)
    clear hK K
    refine norm_ (a' := ?_) ?_ ?_
    rotate_left
    ·
     show Act.put _ (some 19) _ = _
     simp only [Act.put, List.setIfInBounds_toArray, List.set_cons_zero, List.set_cons_succ, i64_w, i32_w]
     rfl
    refine one_ (i := 5) (N := some 20) #[true, true, true, true, true, true, false, false, false] rfl rfl (one_of HT_.out (by kernel_rfl)) (by decide) (fun K hK => ?_)
    refine Kd.R_lit_step k23 _ 23 ?hg (N := 20) ?hd (xs := ([(⟨a1_0, a1_1⟩ : S23), (⟨t324, t325⟩ : S23)] : List (S23))) (inner := [.int .i64 a1_0, .int .i64 a1_1, .int .i64 t324, .int .i64 t325]) (ok := fun _ => True) (okp := fun _ => True) ?hr ?hp (fun _ hk => hk) trivial (Below.refl _ _) (Nat.le_refl _) (by simp) ?_; (case hd => rfl); (case hg => rfl); (case hr => first | (go_simp; done) | (go_simp; rfl)); (case hp => exact (Reps.c2 (show Kd.M k23 _ _ _ (⟨a1_0, a1_1⟩ : S23) [.int .i64 a1_0, .int .i64 a1_1] from (k23_mkM _ _ _ (⟨a1_0, a1_1⟩ : S23) )) (Reps.c2 (show Kd.M k23 _ _ _ (⟨t324, t325⟩ : S23) [.int .i64 t324, .int .i64 t325] from (k23_mkM _ _ _ (⟨t324, t325⟩ : S23) )) (Reps.none _ _))))
    intro v327 w16 ho17 hb hg_ hnew_
    clear hg_ hnew_
    (first | rw [← Ny326.out] at ho17 | (simp only [Int.reduceToNat] at ho17; rw [← Ny326.out] at ho17))
    have HO328 := Aside0.mk (Kd.R_lower ho17 (bs_ HB))
    replace BK321 := bb BK321 hb
    replace HB := hs HB hb
    clear hb ho17
    obtain ⟨Ao18, co18, eo18⟩ := Kd.R_slice HO328.out
    (first | subst eo18 | (injection eo18 with f1_ f2_ f3_; have f4_ := f1_.symm; have f5_ := f3_.symm; clear f1_ f2_ f3_; subst f4_; subst f5_))
    refine hK.out _ _ ⟨(blk_cell BK321.out 0).trans rfl, (blk_cell BK321.out 1).trans rfl, (blk_cell BK321.out 2).trans rfl, (blk_cell BK321.out 3).trans rfl⟩ (fun hHeld => ?_)
    clear hK K
    refine norm_ (a' := ?_) ?_ ?_
    rotate_left
    ·
     show Act.put _ (some 20) _ = _
     simp only [Act.put, List.setIfInBounds_toArray, List.set_cons_zero, List.set_cons_succ, i64_w, i32_w]
     rfl
    refine one_ (i := 6) (N := some 21) #[true, true, true, true, true, true, true, false, false] rfl rfl (one_of HT_.out (by kernel_rfl)) (by decide) (fun K hK => ?_)
    refine goes_ Try.func52 (by kernel_rfl) rfl #[.slice Ao18 y326.length co18] (by rfl) rfl rfl (by (try simp only [List.map_toArray, List.map_cons, List.map_nil]); first | done | rfl | (simp only [List.length_drop, List.length_take]; rfl)) ?_
    with_reducible refine (impl_sorted.calls k _ _ y326 t329 _ ?side1 ?side2 A8.out).mono ?_
    (case side1 => repeat (first | exact (Kd.R_reads' HO328.out).2.2 | (with_reducible refine Kd.C_alloc ?_ _) | (with_reducible refine Kd.C_drewN ?_ _) | (with_reducible refine Kd.C_drew ?_)))
    (case side2 => exact (Kd.R_reads' HO328.out).2.1)
    rintro e w19 ⟨v330, rfl, ho0, hb⟩
    refine ⟨_, rfl, ?_⟩
    have HO331 := Aside0.mk (Kd.R_lower (Kd.R_new' ho0 (Kd.R_lt (by (with_reducible repeat (first | apply Kd.R_alloc | apply Kd.R_drewN | apply Kd.R_drew)); exact HO328.out))) (bs_ HB))
    replace HO328 := Aside0.mk (Kd.R_elder' (by (with_reducible repeat (first | apply Kd.R_alloc | apply Kd.R_drewN | apply Kd.R_drew)); exact HO328.out) (Kd.R_base ho0) hb)
    replace BK321 := bb BK321 hb
    replace HB := hs HB hb
    (try clear hb)
    (try clear hb2)
    (try clear hk)
    (try clear hi)
    (try clear ho0)
    refine hK.out _ _ ⟨(blk_cell BK321.out 0).trans rfl, (blk_cell BK321.out 1).trans rfl, (blk_cell BK321.out 2).trans rfl, (blk_cell BK321.out 3).trans rfl⟩ (fun hHeld => ?_)
    clear hK K
    refine norm_ (a' := ?_) ?_ ?_
    rotate_left
    ·
     show Act.put _ (some 21) _ = _
     simp only [Act.put, List.setIfInBounds_toArray, List.set_cons_zero, List.set_cons_succ, i64_w, i32_w]
     rfl
    refine pu_ 7 (some 4) HT_.out ?_
    refine pu_ 8 (some 5) HT_.out ?_
    refine done_ (done_of HT_.out (by kernel_rfl)) ?_
    try go_wp2
    go_ret2
    exact ⟨_, by first | rfl | (simp [errW_none, errW_some] <;> rfl) | (simp [*, errW_none, errW_some] <;> rfl), by (with_reducible repeat (first | apply Kd.R_alloc | apply Kd.R_drewN | apply Kd.R_drew)); exact Kd.R_mono HO331.out (fun _ hk => trivial), (ho_ HB)⟩
  ·
   replace c6 := Bool.eq_false_iff.mpr c6
   subst c6
   have H1 : (some ((([] : List (S23))), true)) = some (r1, r2) := by rw [if_neg (show ¬ (false = true) by decide)] at H; exact H
   clear H
   have H := H1
   clear H1
   obtain ⟨y332, hy332⟩ : ∃ y_ : List (S23), y_ = (([] : List (S23))) := ⟨_, rfl⟩
   replace H : (some (y332, true)) = some (r1, r2) := by first | (rw [hy332]; with_reducible exact H) | (have H2_ := (Option.bind_some _ _).symm.trans H; rw [hy332]; with_reducible exact H2_) | (have H2_ := (Option.bind_some _ _).symm.trans H; with_reducible exact H2_) | with_reducible exact H | (rw [hy332]; exact H) | exact H
   have Ny332 := Aside0.mk hy332
   clear hy332
   as_aux_lemma =>
    simp only [Option.some.injEq, Prod.mk.injEq] at H
    obtain ⟨rfl, rfl⟩ := H
    go_enter Try.func36, Try.ntmps36
    go_wp2_with (first | ((with_reducible refine gate_dst (N := 3) rfl ?_); refine be_ (N := 3) (cs := #[.int .i64 a1_0, .int .i64 a1_1, .int .i64 a1_2, .int .i64 a1_3]) (t := 25) ?_; intro gb321 hg w20 hbox hb; have BK321 := Aside0.mk (hbox); have GW321 := ge_ HB hg; have GE321 := ge_ HB hg; replace HB := hs HB hb; clear hb hbox hg; have hcz21_0 := cz_ BK321 0 (.int .i64 a1_0); have hcz21_1 := cz_ BK321 1 (.int .i64 a1_1); have hcz21_2 := cz_ BK321 2 (.int .i64 a1_2); have hcz21_3 := cz_ BK321 3 (.int .i64 a1_3); have hfz21_0 := blk_frozen BK321.out 0; have hfz21_1 := blk_frozen BK321.out 1; have hfz21_2 := blk_frozen BK321.out 2; have hfz21_3 := blk_frozen BK321.out 3) | ((with_reducible refine gate_callee (f := 50) rfl ?_); refine gs_ (some 8) Try.func50 #[.int .i64 a0, .agg #[.int .i64 a1_0, .int .i64 a1_1, .int .i64 a1_2, .int .i64 a1_3]] ?_; (with_reducible refine (impl_isSeenOf.calls k a0 a1_0 a1_1 a1_2 a1_3 true _ A3.out).mono ?_); rintro e w22 ⟨rfl, hb⟩; refine ⟨_, rfl, ?_⟩; replace BK321 := bb BK321 hb; replace HB := hs HB hb; (try clear hb); (try clear hb2); (try clear hk); (try clear hi); have hcz23_0 := cz_ BK321 0 (.int .i64 a1_0); have hcz23_1 := cz_ BK321 1 (.int .i64 a1_1); have hcz23_2 := cz_ BK321 2 (.int .i64 a1_2); have hcz23_3 := cz_ BK321 3 (.int .i64 a1_3); have hfz23_0 := blk_frozen BK321.out 0; have hfz23_1 := blk_frozen BK321.out 1; have hfz23_2 := blk_frozen BK321.out 2; have hfz23_3 := blk_frozen BK321.out 3) | ((with_reducible refine gate_callee (f := 51) rfl ?_); refine gs_ (some 12) Try.func51 #[.int .i64 a0, .agg #[.int .i64 a1_0, .int .i64 a1_1, .int .i64 a1_2, .int .i64 a1_3]] ?_; (with_reducible refine (impl_isTrue.calls k a0 a1_0 a1_1 a1_2 a1_3 false _ A5.out).mono ?_); rintro e w24 ⟨rfl, hb⟩; refine ⟨_, rfl, ?_⟩; replace BK321 := bb BK321 hb; replace HB := hs HB hb; (try clear hb); (try clear hb2); (try clear hk); (try clear hi)) | ((with_reducible refine gate_dst (N := 14) rfl ?_); refine Kd.R_lit k23 _ 23 ?hg (N := 14) ?hd (xs := ([] : List (S23))) (inner := []) (ok := fun _ => True) (okp := fun _ => True) ?hr ?hp (fun _ hk => hk) trivial (Below.refl _ _) (Nat.le_refl _) (by simp) ?_; (case hd => rfl); (case hg => rfl); (case hr => first | (go_simp; done) | (go_simp; rfl)); (case hp => exact (Reps.none _ _)); intro v333 w25 ho26 hb hg_ hnew_; clear hg_ hnew_; (first | rw [← Ny332.out] at ho26 | (simp only [Int.reduceToNat] at ho26; rw [← Ny332.out] at ho26)); have HO334 := Aside0.mk (Kd.R_lower ho26 (bs_ HB)); replace BK321 := bb BK321 hb; replace HB := hs HB hb; clear hb ho26))
    go_ret2
    exact ⟨_, by first | rfl | (simp [errW_none, errW_some] <;> rfl) | (simp [*, errW_none, errW_some] <;> rfl), by (with_reducible repeat (first | apply Kd.R_alloc | apply Kd.R_drewN | apply Kd.R_drew)); exact HO334.out, (ho_ HB)⟩
 ·
  replace c4 := Bool.eq_false_iff.mpr c4
  subst c4
  have H1 : (some (([] : List (S23)), false)) = some (r1, r2) := by rw [if_neg (show ¬ (false = true) by decide)] at H; exact H
  clear H
  have H := H1
  clear H1
  as_aux_lemma =>
   simp only [Option.some.injEq, Prod.mk.injEq] at H
   obtain ⟨rfl, rfl⟩ := H
   go_enter Try.func36, Try.ntmps36
   go_wp2_with (first | ((with_reducible refine gate_dst (N := 3) rfl ?_); refine be_ (N := 3) (cs := #[.int .i64 a1_0, .int .i64 a1_1, .int .i64 a1_2, .int .i64 a1_3]) (t := 25) ?_; intro gb321 hg w27 hbox hb; have BK321 := Aside0.mk (hbox); have GW321 := ge_ HB hg; have GE321 := ge_ HB hg; replace HB := hs HB hb; clear hb hbox hg; have hcz28_0 := cz_ BK321 0 (.int .i64 a1_0); have hcz28_1 := cz_ BK321 1 (.int .i64 a1_1); have hcz28_2 := cz_ BK321 2 (.int .i64 a1_2); have hcz28_3 := cz_ BK321 3 (.int .i64 a1_3); have hfz28_0 := blk_frozen BK321.out 0; have hfz28_1 := blk_frozen BK321.out 1; have hfz28_2 := blk_frozen BK321.out 2; have hfz28_3 := blk_frozen BK321.out 3) | ((with_reducible refine gate_callee (f := 50) rfl ?_); refine gs_ (some 8) Try.func50 #[.int .i64 a0, .agg #[.int .i64 a1_0, .int .i64 a1_1, .int .i64 a1_2, .int .i64 a1_3]] ?_; (with_reducible refine (impl_isSeenOf.calls k a0 a1_0 a1_1 a1_2 a1_3 false _ A3.out).mono ?_); rintro e w29 ⟨rfl, hb⟩; refine ⟨_, rfl, ?_⟩; replace BK321 := bb BK321 hb; replace HB := hs HB hb; (try clear hb); (try clear hb2); (try clear hk); (try clear hi)))
   go_ret2
   exact ⟨_, by first | rfl | (simp [errW_none, errW_some] <;> rfl) | (simp [*, errW_none, errW_some] <;> rfl), by first | exact Kd.R_nil _ _ _ _ _ | exact Kd.N_nil _ _ _ _ _ | exact Kd.V_nil _ _ _ _ _ | exact Kd.Q_nil _ _ _ _ _ | exact Kd.S_nil _ _ _ _ _, (ho_ HB)⟩

/-! ### spec_diTimes: function 47 -/
def spec_diTimes.f (k : Nat) (a0_0 : Int) (a0_1 : Int) (a1 : Int) : Option (Int × Int) := (spec_diMake.f k (wrap64 (a0_0 * a1)) a0_1).bind fun bt337 => (some (bt337.1, bt337.2.1))
theorem spec_diTimes.mono : ∀ a0 a1 a2 k, LeO (spec_diTimes.f k a0 a1 a2) (spec_diTimes.f (k + 1) a0 a1 a2) := by
 intro a0 a1 a2 k
 unfold spec_diTimes.f
 repeat' first
   | (with_reducible exact spec_diMake.mono _ _ _)
   | (with_reducible exact LeO.refl _)
   | (with_reducible exact LeO.none _)
   | (with_reducible refine LeO.ite ?_ ?_)
   | (with_reducible refine LeO.bind ?_ (fun _ => ?_))
   | exact spec_diMake.mono _ _ _
   | exact LeO.none _
   | refine LeO.ite ?_ ?_
   | refine LeO.bind ?_ (fun _ => ?_)
set_option maxHeartbeats 8000000 in
set_option maxRecDepth 100000 in
theorem spec_diTimes.calls (k : Nat) (a0_0 : Int) (a0_1 : Int) (a1 : Int) (r1 : Int) (r2 : Int) (w : World) (h : spec_diTimes.f k a0_0 a0_1 a1 = some (r1, r2)) :
  Calls Try.prog 47 #[.agg #[.int .i64 a0_0, .int .i64 a0_1], .int .i64 a1] w fun e w' => e = .returned (.agg #[.int .i64 r1, .int .i64 r2]) ∧ Below w.heap.size w w' := by
 have hu23 := Try.underlying23
 have HB := Aside0.mk (Below.refl w.heap.size w)
 have H : ((spec_diMake.f k (wrap64 (a0_0 * a1)) a0_1).bind fun bt337 => (some (bt337.1, bt337.2.1))) = some (r1, r2) := h
 clear h
 replace H := Option.bind_eq_some_iff.mp H
 obtain ⟨⟨t337, t338, t339⟩, A30, H⟩ := H
 replace H : (some (t337, t338)) = some (r1, r2) := H
 have A3 := Aside0.mk A30
 clear A30
 as_aux_lemma =>
  simp only [Option.some.injEq, Prod.mk.injEq] at H
  obtain ⟨rfl, rfl⟩ := H
  go_enter Try.func47, Try.ntmps47
  go_wp2_with (first | ((with_reducible refine gate_dst (N := 2) rfl ?_); refine be_ (N := 2) (cs := #[.int .i64 a0_0, .int .i64 a0_1]) (t := 23) ?_; intro gb335 hg w4 hbox hb; have BK335 := Aside0.mk (hbox); have GW335 := ge_ HB hg; have GE335 := ge_ HB hg; replace HB := hs HB hb; clear hb hbox hg) | ((with_reducible refine gate_dst (N := 4) rfl ?_); refine be_ (N := 4) (cs := #[.int .i64 0, .int .i64 0]) (t := 23) ?_; intro gb336 hg w5 hbox hb; have BK336 := Aside0.mk (hbox); have GW336 := ge_ HB hg; have GE336 := ge_ HB hg; obtain ⟨NB335_336, NB336_335⟩ := nq_ BK335 hg; replace BK335 := bb BK335 hb; replace HB := hs HB hb; clear hb hbox hg; obtain ⟨hnb6, hnc6⟩ := nn_ NB335_336; have hcz7_0 := cz_ BK335 0 (.int .i64 a0_0); have hcz7_1 := cz_ BK335 1 (.int .i64 a0_1); have hfz7_0 := blk_frozen BK335.out 0; have hfz7_1 := blk_frozen BK335.out 1) | ((with_reducible refine gate_callee (f := 71) rfl ?_); refine gs_ (some 14) Try.func71 #[.int .i64 (wrap64 (a0_0 * a1)), .int .i64 a0_1] ?_; (with_reducible refine (spec_diMake.calls k (wrap64 (a0_0 * a1)) a0_1 t337 t338 t339 _ A3.out).mono ?_); rintro e w8 ⟨rfl, hb⟩; refine ⟨_, rfl, ?_⟩; replace BK335 := bb BK335 hb; replace BK336 := bb BK336 hb; replace HB := hs HB hb; (try clear hb); (try clear hb2); (try clear hk); (try clear hi)) | ((with_reducible refine gate_dst (N := 5) rfl ?_); refine be_ (N := 5) (cs := #[.int .i64 0, .int .i64 0]) (t := 23) ?_; intro gb340 hg w9 hbox hb; have BK340 := Aside0.mk (hbox); have GW340 := ge_ HB hg; have GE340 := ge_ HB hg; obtain ⟨NB335_340, NB340_335⟩ := nq_ BK335 hg; obtain ⟨NB336_340, NB340_336⟩ := nq_ BK336 hg; replace BK335 := bb BK335 hb; replace BK336 := bb BK336 hb; replace HB := hs HB hb; clear hb hbox hg; obtain ⟨hnb10, hnc10⟩ := nn_ NB340_335; obtain ⟨hnb11, hnc11⟩ := nn_ NB340_336; have hcz12_0 := cz_ BK340 0 (.int .i64 0); have hcz12_1 := cz_ BK340 1 (.int .i64 0); have hfz12_0 := blk_frozen BK340.out 0; have hfz12_1 := blk_frozen BK340.out 1; have hcz13_0 := cz_ BK336 0 (.int .i64 0); have hcz13_1 := cz_ BK336 1 (.int .i64 0); have hfz13_0 := blk_frozen BK336.out 0; have hfz13_1 := blk_frozen BK336.out 1))
  refine bodyPost_ret (results_cell_row rfl _ _ gb336 23 #[.int .i64 t337, .int .i64 t338] (0, 0) _ rfl (by (with_reducible repeat (first | refine blk_drewN ?_ _ | refine blk_drew ?_ | refine blk_alloc ?_ _)); refine blk_put (cs := #[.int .i64 t337, .int .i64 0]) ?_ 1 _ rfl; (with_reducible repeat (first | refine blk_drewN ?_ _ | refine blk_drew ?_ | refine blk_alloc ?_ _)); refine blk_put (cs := #[.int .i64 0, .int .i64 0]) ?_ 0 _ rfl; (with_reducible repeat (first | refine blk_drewN ?_ _ | refine blk_drew ?_ | refine blk_alloc ?_ _)); refine blk_far ?_ NB336_340.out _; (with_reducible repeat (first | refine blk_drewN ?_ _ | refine blk_drew ?_ | refine blk_alloc ?_ _)); refine blk_far ?_ NB336_340.out _; (with_reducible repeat (first | refine blk_drewN ?_ _ | refine blk_drew ?_ | refine blk_alloc ?_ _)); exact BK336.out) Try.underlying23 rfl (by kernel_rfl)) rfl ?_
  exact ⟨by first | rfl | (simp [errW_none, errW_some] <;> rfl) | (simp [*, errW_none, errW_some] <;> rfl), (ho_ HB)⟩

/-! ### spec_seTrue: function 44 -/
def spec_seTrue.f (k : Nat) (a0 : Int) (a1_0 : Int) (a1_1 : Int) (a1_2 : Int) (a1_3 : Int) : Option (Bool) := (spec_diTimes.f k a1_0 a1_1 a0).bind fun bt342 => (some (bt342.1 == a1_2 && (bt342.2 == a1_3)))
theorem spec_seTrue.mono : ∀ a0 a1 a2 a3 a4 k, LeO (spec_seTrue.f k a0 a1 a2 a3 a4) (spec_seTrue.f (k + 1) a0 a1 a2 a3 a4) := by
 intro a0 a1 a2 a3 a4 k
 unfold spec_seTrue.f
 repeat' first
   | (with_reducible exact spec_diTimes.mono _ _ _ _)
   | (with_reducible exact LeO.refl _)
   | (with_reducible exact LeO.none _)
   | (with_reducible refine LeO.ite ?_ ?_)
   | (with_reducible refine LeO.bind ?_ (fun _ => ?_))
   | exact spec_diTimes.mono _ _ _ _
   | exact LeO.none _
   | refine LeO.ite ?_ ?_
   | refine LeO.bind ?_ (fun _ => ?_)
def spec_seTrue.T1 : Bool × List (List Nat × List Nat) := (true, [([], []), ([0], [0]), ([], []), ([1, 2], [1, 2]), ([], []), ([4], [4]), ([3, 5], [3, 5]), ([6, 3, 0, 1, 2, 3, 4, 5, 6], [6])])
def spec_seTrue.B1 : List Nat := [0, 1, 0, 7, 0, 16, 63, 127]
theorem spec_seTrue.tab1 : rtab .any (opsOf Try.f44 1) = spec_seTrue.T1 := by kernel_rfl
theorem spec_seTrue.bits1 : waitsOk spec_seTrue.T1.2 spec_seTrue.B1 = true := by kernel_rfl
set_option maxHeartbeats 8000000 in
set_option maxRecDepth 100000 in
theorem spec_seTrue.calls (k : Nat) (a0 : Int) (a1_0 : Int) (a1_1 : Int) (a1_2 : Int) (a1_3 : Int) (r : Bool) (w : World) (h : spec_seTrue.f k a0 a1_0 a1_1 a1_2 a1_3 = some r) :
  Calls Try.prog 44 #[.int .i64 a0, .agg #[.int .i64 a1_0, .int .i64 a1_1, .int .i64 a1_2, .int .i64 a1_3]] w fun e w' => e = .returned (.bool r) ∧ Below w.heap.size w w' := by
 have hu25 := Try.underlying25
 have hu23 := Try.underlying23
 have HB := Aside0.mk (Below.refl w.heap.size w)
 have H : ((spec_diTimes.f k a1_0 a1_1 a0).bind fun bt342 => (some (bt342.1 == a1_2 && (bt342.2 == a1_3)))) = some r := h
 clear h
 replace H := Option.bind_eq_some_iff.mp H
 obtain ⟨⟨t342, t343⟩, A30, H⟩ := H
 replace H : (some (t342 == a1_2 && (t343 == a1_3))) = some r := H
 have A3 := Aside0.mk A30
 clear A30
 as_aux_lemma =>
  obtain rfl := Option.some.inj H
  go_enter Try.func44, Try.ntmps44
  try go_wp2_with (first | ((with_reducible refine gate_dst (N := 3) rfl ?_); refine be_ (N := 3) (cs := #[.int .i64 a1_0, .int .i64 a1_1, .int .i64 a1_2, .int .i64 a1_3]) (t := 25) ?_; intro gb341 hg w4 hbox hb; have BK341 := Aside0.mk (hbox); have GW341 := ge_ HB hg; have GE341 := ge_ HB hg; replace HB := hs HB hb; clear hb hbox hg))
  replace BK341 := Aside0.mk (blk_drew BK341.out)
  replace HB := Aside0.mk (below_drew1 HB.out)
  refine start_ (n := 8) (S := fun w' => w'.cell? ⟨gb341, 0, none⟩ = some (.int .i64 a1_0) ∧ w'.cell? ⟨gb341, 1, none⟩ = some (.int .i64 a1_1) ∧ w'.cell? ⟨gb341, 2, none⟩ = some (.int .i64 a1_2) ∧ w'.cell? ⟨gb341, 3, none⟩ = some (.int .i64 a1_3)) (ds := []) #[false, false, false, false, false, false, false, false] (by kernel_rfl) rfl rfl ⟨(blk_cell BK341.out 0).trans rfl, (blk_cell BK341.out 1).trans rfl, (blk_cell BK341.out 2).trans rfl, (blk_cell BK341.out 3).trans rfl⟩ (fun hHeld => ?_); refine with_tabW spec_seTrue.tab1 spec_seTrue.bits1 (fun HT_ HW_ => ?_)
  generalize w4.drew = w5 at BK341 HB hHeld ⊢
  refine pu_ 0 (some 5) HT_.out ?_
  refine pu_ 2 (some 7) HT_.out ?_
  refine pu_ 4 (some 9) HT_.out ?_
  refine take_ (i := 1) (N := some 6) (v := ?_) (a' := ?_) #[true, true, true, false, true, false, false, false] rfl rfl (take_ofW HT_.out HW_.out (by kernel_rfl)) (fun _ _ _ h => h) (Or.inl ⟨by rfl, ?_⟩) hHeld ?_ ?_
  rotate_left
  ·
   rintro w' ⟨s0, s1, s2, s3⟩
   go_simp
   with_reducible rfl
  rotate_left
  ·
   simp only [Act.put, List.setIfInBounds_toArray, List.set_cons_zero, List.set_cons_succ, i64_w, i32_w]
   rfl
  refine take_ (i := 5) (N := some 10) (v := ?_) (a' := ?_) #[true, true, true, false, true, true, false, false] rfl rfl (take_ofW HT_.out HW_.out (by kernel_rfl)) (fun _ _ _ h => h) (Or.inl ⟨by rfl, ?_⟩) hHeld ?_ ?_
  rotate_left
  ·
   rintro w' ⟨s0, s1, s2, s3⟩
   go_simp
   with_reducible rfl
  rotate_left
  ·
   simp only [Act.put, List.setIfInBounds_toArray, List.set_cons_zero, List.set_cons_succ, i64_w, i32_w]
   rfl
  refine one_ (i := 3) (N := some 8) #[true, true, true, true, true, true, false, false] rfl rfl (one_of HT_.out (by kernel_rfl)) (by decide) (fun K hK => ?_)
  refine goes_ Try.func47 (by kernel_rfl) rfl #[.agg #[.int .i64 a1_0, .int .i64 a1_1], .int .i64 a0] (by rfl) rfl rfl (by (try simp only [List.map_toArray, List.map_cons, List.map_nil]); first | done | rfl | (simp only [List.length_drop, List.length_take]; rfl)) ?_
  with_reducible refine (spec_diTimes.calls k a1_0 a1_1 a0 t342 t343 _ A3.out).mono ?_
  rintro e w6 ⟨rfl, hb⟩
  refine ⟨_, rfl, ?_⟩
  replace BK341 := bb BK341 hb
  replace HB := hs HB hb
  (try clear hb)
  (try clear hb2)
  (try clear hk)
  (try clear hi)
  refine hK.out _ _ ⟨(blk_cell BK341.out 0).trans rfl, (blk_cell BK341.out 1).trans rfl, (blk_cell BK341.out 2).trans rfl, (blk_cell BK341.out 3).trans rfl⟩ (fun hHeld => ?_)
  clear hK K
  refine norm_ (a' := ?_) ?_ ?_
  rotate_left
  ·
   show Act.put _ (some 8) _ = _
   simp only [Act.put, List.setIfInBounds_toArray, List.set_cons_zero, List.set_cons_succ, i64_w, i32_w]
   rfl
  refine pu_ 6 (some 11) HT_.out ?_
  refine pu_ 7 (some 4) HT_.out ?_
  refine done_ (done_of HT_.out (by kernel_rfl)) ?_
  try go_wp2
  go_ret
  exact ⟨by first | rfl | (simp [errW_none, errW_some] <;> rfl) | (simp [*, errW_none, errW_some] <;> rfl), (ho_ HB)⟩

/-! ### spec_diMirror: function 81 -/
def spec_diMirror.f (k : Nat) (a0_0 : Int) (a0_1 : Int) : Option (Int × Int) := (spec_diTimes.f k a0_0 a0_1 (-1)).bind fun bt346 => (some (bt346.1, bt346.2))
theorem spec_diMirror.mono : ∀ a0 a1 k, LeO (spec_diMirror.f k a0 a1) (spec_diMirror.f (k + 1) a0 a1) := by
 intro a0 a1 k
 unfold spec_diMirror.f
 repeat' first
   | (with_reducible exact spec_diTimes.mono _ _ _ _)
   | (with_reducible exact LeO.refl _)
   | (with_reducible exact LeO.none _)
   | (with_reducible refine LeO.ite ?_ ?_)
   | (with_reducible refine LeO.bind ?_ (fun _ => ?_))
   | exact spec_diTimes.mono _ _ _ _
   | exact LeO.none _
   | refine LeO.ite ?_ ?_
   | refine LeO.bind ?_ (fun _ => ?_)
set_option maxHeartbeats 8000000 in
set_option maxRecDepth 100000 in
theorem spec_diMirror.calls (k : Nat) (a0_0 : Int) (a0_1 : Int) (r1 : Int) (r2 : Int) (w : World) (h : spec_diMirror.f k a0_0 a0_1 = some (r1, r2)) :
  Calls Try.prog 81 #[.agg #[.int .i64 a0_0, .int .i64 a0_1]] w fun e w' => e = .returned (.agg #[.int .i64 r1, .int .i64 r2]) ∧ Below w.heap.size w w' := by
 have hu23 := Try.underlying23
 have HB := Aside0.mk (Below.refl w.heap.size w)
 have H : ((spec_diTimes.f k a0_0 a0_1 (-1)).bind fun bt346 => (some (bt346.1, bt346.2))) = some (r1, r2) := h
 clear h
 replace H := Option.bind_eq_some_iff.mp H
 obtain ⟨⟨t346, t347⟩, A20, H⟩ := H
 replace H : (some (t346, t347)) = some (r1, r2) := H
 have A2 := Aside0.mk A20
 clear A20
 as_aux_lemma =>
  simp only [Option.some.injEq, Prod.mk.injEq] at H
  obtain ⟨rfl, rfl⟩ := H
  go_enter Try.func81, Try.ntmps81
  go_wp2_with (first | ((with_reducible refine gate_dst (N := 1) rfl ?_); refine be_ (N := 1) (cs := #[.int .i64 a0_0, .int .i64 a0_1]) (t := 23) ?_; intro gb344 hg w3 hbox hb; have BK344 := Aside0.mk (hbox); have GW344 := ge_ HB hg; have GE344 := ge_ HB hg; replace HB := hs HB hb; clear hb hbox hg) | ((with_reducible refine gate_dst (N := 2) rfl ?_); refine be_ (N := 2) (cs := #[.int .i64 0, .int .i64 0]) (t := 23) ?_; intro gb345 hg w4 hbox hb; have BK345 := Aside0.mk (hbox); have GW345 := ge_ HB hg; have GE345 := ge_ HB hg; obtain ⟨NB344_345, NB345_344⟩ := nq_ BK344 hg; replace BK344 := bb BK344 hb; replace HB := hs HB hb; clear hb hbox hg; obtain ⟨hnb5, hnc5⟩ := nn_ NB344_345; have hcz6_0 := cz_ BK344 0 (.int .i64 a0_0); have hcz6_1 := cz_ BK344 1 (.int .i64 a0_1); have hfz6_0 := blk_frozen BK344.out 0; have hfz6_1 := blk_frozen BK344.out 1) | ((with_reducible refine gate_callee (f := 47) rfl ?_); refine gs_ (some 4) Try.func47 #[.agg #[.int .i64 a0_0, .int .i64 a0_1], .int .i64 (-1)] ?_; (with_reducible refine (spec_diTimes.calls k a0_0 a0_1 (-1) t346 t347 _ A2.out).mono ?_); rintro e w7 ⟨rfl, hb⟩; refine ⟨_, rfl, ?_⟩; replace BK344 := bb BK344 hb; replace BK345 := bb BK345 hb; replace HB := hs HB hb; (try clear hb); (try clear hb2); (try clear hk); (try clear hi); have hcz8_0 := cz_ BK345 0 (.int .i64 0); have hcz8_1 := cz_ BK345 1 (.int .i64 0); have hfz8_0 := blk_frozen BK345.out 0; have hfz8_1 := blk_frozen BK345.out 1))
  refine bodyPost_ret (results_cell_row rfl _ _ gb345 23 #[.int .i64 t346, .int .i64 t347] (0, 0) _ rfl (by (with_reducible repeat (first | refine blk_drewN ?_ _ | refine blk_drew ?_ | refine blk_alloc ?_ _)); refine blk_put (cs := #[.int .i64 t346, .int .i64 0]) ?_ 1 _ rfl; (with_reducible repeat (first | refine blk_drewN ?_ _ | refine blk_drew ?_ | refine blk_alloc ?_ _)); refine blk_put (cs := #[.int .i64 0, .int .i64 0]) ?_ 0 _ rfl; (with_reducible repeat (first | refine blk_drewN ?_ _ | refine blk_drew ?_ | refine blk_alloc ?_ _)); exact BK345.out) Try.underlying23 rfl (by kernel_rfl)) rfl ?_
  exact ⟨by first | rfl | (simp [errW_none, errW_some] <;> rfl) | (simp [*, errW_none, errW_some] <;> rfl), (ho_ HB)⟩

/-! ### spec_seMirror: function 59 -/
def spec_seMirror.f (k : Nat) (a0_0 : Int) (a0_1 : Int) (a0_2 : Int) (a0_3 : Int) : Option (Int × Int × Int × Int) := (spec_diMirror.f k a0_0 a0_1).bind fun bt350 => ((spec_diMirror.f k a0_2 a0_3).bind fun bt352 => (some (bt350.1, bt350.2, bt352.1, bt352.2)))
theorem spec_seMirror.mono : ∀ a0 a1 a2 a3 k, LeO (spec_seMirror.f k a0 a1 a2 a3) (spec_seMirror.f (k + 1) a0 a1 a2 a3) := by
 intro a0 a1 a2 a3 k
 unfold spec_seMirror.f
 repeat' first
   | (with_reducible exact spec_diMirror.mono _ _ _)
   | (with_reducible exact LeO.refl _)
   | (with_reducible exact LeO.none _)
   | (with_reducible refine LeO.ite ?_ ?_)
   | (with_reducible refine LeO.bind ?_ (fun _ => ?_))
   | exact spec_diMirror.mono _ _ _
   | exact LeO.none _
   | refine LeO.ite ?_ ?_
   | refine LeO.bind ?_ (fun _ => ?_)
def spec_seMirror.T1 : Bool × List (List Nat × List Nat) := (true, [([], []), ([0], [0]), ([1], [1]), ([], []), ([3], [3]), ([4, 2], [4]), ([2, 5], [2, 5]), ([6, 5, 0, 1, 2, 3, 4, 5, 6], [6])])
def spec_seMirror.B1 : List Nat := [0, 1, 3, 0, 8, 31, 63, 127]
theorem spec_seMirror.tab1 : rtab .any (opsOf Try.f59 1) = spec_seMirror.T1 := by kernel_rfl
theorem spec_seMirror.bits1 : waitsOk spec_seMirror.T1.2 spec_seMirror.B1 = true := by kernel_rfl
set_option maxHeartbeats 8000000 in
set_option maxRecDepth 100000 in
theorem spec_seMirror.calls (k : Nat) (a0_0 : Int) (a0_1 : Int) (a0_2 : Int) (a0_3 : Int) (r1 : Int) (r2 : Int) (r3 : Int) (r4 : Int) (w : World) (h : spec_seMirror.f k a0_0 a0_1 a0_2 a0_3 = some (r1, r2, r3, r4)) :
  Calls Try.prog 59 #[.agg #[.int .i64 a0_0, .int .i64 a0_1, .int .i64 a0_2, .int .i64 a0_3]] w fun e w' => e = .returned (.agg #[.int .i64 r1, .int .i64 r2, .int .i64 r3, .int .i64 r4]) ∧ Below w.heap.size w w' := by
 have hu25 := Try.underlying25
 have hu23 := Try.underlying23
 have HB := Aside0.mk (Below.refl w.heap.size w)
 have H : ((spec_diMirror.f k a0_0 a0_1).bind fun bt350 => ((spec_diMirror.f k a0_2 a0_3).bind fun bt352 => (some (bt350.1, bt350.2, bt352.1, bt352.2)))) = some (r1, r2, r3, r4) := h
 clear h
 replace H := Option.bind_eq_some_iff.mp H
 obtain ⟨⟨t350, t351⟩, A20, H⟩ := H
 replace H : ((spec_diMirror.f k a0_2 a0_3).bind fun bt352 => (some (t350, t351, bt352.1, bt352.2))) = some (r1, r2, r3, r4) := H
 have A2 := Aside0.mk A20
 clear A20
 replace H := Option.bind_eq_some_iff.mp H
 obtain ⟨⟨t352, t353⟩, A30, H⟩ := H
 replace H : (some (t350, t351, t352, t353)) = some (r1, r2, r3, r4) := H
 have A3 := Aside0.mk A30
 clear A30
 as_aux_lemma =>
  simp only [Option.some.injEq, Prod.mk.injEq] at H
  obtain ⟨rfl, rfl, rfl, rfl⟩ := H
  go_enter Try.func59, Try.ntmps59
  try go_wp2_with (first | ((with_reducible refine gate_dst (N := 1) rfl ?_); refine be_ (N := 1) (cs := #[.int .i64 a0_0, .int .i64 a0_1, .int .i64 a0_2, .int .i64 a0_3]) (t := 25) ?_; intro gb348 hg w4 hbox hb; have BK348 := Aside0.mk (hbox); have GW348 := ge_ HB hg; have GE348 := ge_ HB hg; replace HB := hs HB hb; clear hb hbox hg) | ((with_reducible refine gate_dst (N := 2) rfl ?_); refine be_ (N := 2) (cs := #[.int .i64 0, .int .i64 0, .int .i64 0, .int .i64 0]) (t := 25) ?_; intro gb349 hg w5 hbox hb; have BK349 := Aside0.mk (hbox); have GW349 := ge_ HB hg; have GE349 := ge_ HB hg; obtain ⟨NB348_349, NB349_348⟩ := nq_ BK348 hg; replace BK348 := bb BK348 hb; replace HB := hs HB hb; clear hb hbox hg))
  replace BK348 := Aside0.mk (blk_drew BK348.out)
  replace BK349 := Aside0.mk (blk_drew BK349.out)
  replace HB := Aside0.mk (below_drew1 HB.out)
  refine start_ (n := 8) (S := fun w' => w'.cell? ⟨gb348, 0, none⟩ = some (.int .i64 a0_0) ∧ w'.cell? ⟨gb348, 1, none⟩ = some (.int .i64 a0_1) ∧ w'.cell? ⟨gb348, 2, none⟩ = some (.int .i64 a0_2) ∧ w'.cell? ⟨gb348, 3, none⟩ = some (.int .i64 a0_3)) (ds := []) #[false, false, false, false, false, false, false, false] (by kernel_rfl) rfl rfl ⟨(blk_cell BK348.out 0).trans rfl, (blk_cell BK348.out 1).trans rfl, (blk_cell BK348.out 2).trans rfl, (blk_cell BK348.out 3).trans rfl⟩ (fun hHeld => ?_); refine with_tabW spec_seMirror.tab1 spec_seMirror.bits1 (fun HT_ HW_ => ?_)
  generalize w5.drew = w6 at BK348 BK349 HB hHeld ⊢
  refine pu_ 0 (some 3) HT_.out ?_
  refine pu_ 3 (some 6) HT_.out ?_
  refine take_ (i := 1) (N := some 4) (v := ?_) (a' := ?_) #[true, true, false, true, false, false, false, false] rfl rfl (take_ofW HT_.out HW_.out (by kernel_rfl)) (fun _ _ _ h => h) (Or.inl ⟨by rfl, ?_⟩) hHeld ?_ ?_
  rotate_left
  ·
   rintro w' ⟨s0, s1, s2, s3⟩
   go_simp
   with_reducible rfl
  rotate_left
  ·
   simp only [Act.put, List.setIfInBounds_toArray, List.set_cons_zero, List.set_cons_succ, i64_w, i32_w]
   rfl
  refine take_ (i := 4) (N := some 7) (v := ?_) (a' := ?_) #[true, true, false, true, true, false, false, false] rfl rfl (take_ofW HT_.out HW_.out (by kernel_rfl)) (fun _ _ _ h => h) (Or.inl ⟨by rfl, ?_⟩) hHeld ?_ ?_
  rotate_left
  ·
   rintro w' ⟨s0, s1, s2, s3⟩
   go_simp
   with_reducible rfl
  rotate_left
  ·
   simp only [Act.put, List.setIfInBounds_toArray, List.set_cons_zero, List.set_cons_succ, i64_w, i32_w]
   rfl
  refine one_ (i := 2) (N := some 5) #[true, true, true, true, true, false, false, false] rfl rfl (one_of HT_.out (by kernel_rfl)) (by decide) (fun K hK => ?_)
  refine goes_ Try.func81 (by kernel_rfl) rfl #[.agg #[.int .i64 a0_0, .int .i64 a0_1]] (by rfl) rfl rfl (by (try simp only [List.map_toArray, List.map_cons, List.map_nil]); first | done | rfl | (simp only [List.length_drop, List.length_take]; rfl)) ?_
  with_reducible refine (spec_diMirror.calls k a0_0 a0_1 t350 t351 _ A2.out).mono ?_
  rintro e w7 ⟨rfl, hb⟩
  refine ⟨_, rfl, ?_⟩
  replace BK348 := bb BK348 hb
  replace BK349 := bb BK349 hb
  replace HB := hs HB hb
  (try clear hb)
  (try clear hb2)
  (try clear hk)
  (try clear hi)
  refine hK.out _ _ ⟨(blk_cell BK348.out 0).trans rfl, (blk_cell BK348.out 1).trans rfl, (blk_cell BK348.out 2).trans rfl, (blk_cell BK348.out 3).trans rfl⟩ (fun hHeld => ?_)
  clear hK K
  refine norm_ (a' := ?_) ?_ ?_
  rotate_left
  ·
   show Act.put _ (some 5) _ = _
   simp only [Act.put, List.setIfInBounds_toArray, List.set_cons_zero, List.set_cons_succ, i64_w, i32_w]
   rfl
  refine one_ (i := 5) (N := some 8) #[true, true, true, true, true, true, false, false] rfl rfl (one_of HT_.out (by kernel_rfl)) (by decide) (fun K hK => ?_)
  refine goes_ Try.func81 (by kernel_rfl) rfl #[.agg #[.int .i64 a0_2, .int .i64 a0_3]] (by rfl) rfl rfl (by (try simp only [List.map_toArray, List.map_cons, List.map_nil]); first | done | rfl | (simp only [List.length_drop, List.length_take]; rfl)) ?_
  with_reducible refine (spec_diMirror.calls k a0_2 a0_3 t352 t353 _ A3.out).mono ?_
  rintro e w8 ⟨rfl, hb⟩
  refine ⟨_, rfl, ?_⟩
  replace BK348 := bb BK348 hb
  replace BK349 := bb BK349 hb
  replace HB := hs HB hb
  (try clear hb)
  (try clear hb2)
  (try clear hk)
  (try clear hi)
  refine hK.out _ _ ⟨(blk_cell BK348.out 0).trans rfl, (blk_cell BK348.out 1).trans rfl, (blk_cell BK348.out 2).trans rfl, (blk_cell BK348.out 3).trans rfl⟩ (fun hHeld => ?_)
  clear hK K
  refine norm_ (a' := ?_) ?_ ?_
  rotate_left
  ·
   show Act.put _ (some 8) _ = _
   simp only [Act.put, List.setIfInBounds_toArray, List.set_cons_zero, List.set_cons_succ, i64_w, i32_w]
   rfl
  refine pu_ 6 (some 9) HT_.out ?_
  refine one_ (i := 7) (N := none) #[true, true, true, true, true, true, true, true] rfl rfl (one_of HT_.out (by kernel_rfl)) (by decide) (fun K hK => ?_)
  have hs9 : w8.cell? ⟨gb349, 0, none⟩ = some (.int .i64 0) := (blk_cell BK349.out 0).trans rfl
  have hfs9 := blk_frozen BK349.out 0
  obtain ⟨hns9_0, hms9_0⟩ := nn_ NB348_349
  have hs10 : w8.cell? ⟨gb349, 1, none⟩ = some (.int .i64 0) := (blk_cell BK349.out 1).trans rfl
  have hfs10 := blk_frozen BK349.out 1
  obtain ⟨hns10_0, hms10_0⟩ := nn_ NB348_349
  have hs11 : w8.cell? ⟨gb349, 2, none⟩ = some (.int .i64 0) := (blk_cell BK349.out 2).trans rfl
  have hfs11 := blk_frozen BK349.out 2
  obtain ⟨hns11_0, hms11_0⟩ := nn_ NB348_349
  have hs12 : w8.cell? ⟨gb349, 3, none⟩ = some (.int .i64 0) := (blk_cell BK349.out 3).trans rfl
  have hfs12 := blk_frozen BK349.out 3
  obtain ⟨hns12_0, hms12_0⟩ := nn_ NB348_349
  refine skip_ (w1 := ?_) (by rfl) rfl ?_ ?_
  rotate_left
  ·
   go_simp
   rfl
  refine hK.out _ _ ⟨((cell_far (p := ⟨gb349, _, none⟩) NB348_349.out _).trans (((cell_far (p := ⟨gb349, _, none⟩) NB348_349.out _).trans (((cell_far (p := ⟨gb349, _, none⟩) NB348_349.out _).trans (((cell_far (p := ⟨gb349, _, none⟩) NB348_349.out _).trans (hHeld.1)))))))), ((cell_far (p := ⟨gb349, _, none⟩) NB348_349.out _).trans (((cell_far (p := ⟨gb349, _, none⟩) NB348_349.out _).trans (((cell_far (p := ⟨gb349, _, none⟩) NB348_349.out _).trans (((cell_far (p := ⟨gb349, _, none⟩) NB348_349.out _).trans (hHeld.2.1)))))))), ((cell_far (p := ⟨gb349, _, none⟩) NB348_349.out _).trans (((cell_far (p := ⟨gb349, _, none⟩) NB348_349.out _).trans (((cell_far (p := ⟨gb349, _, none⟩) NB348_349.out _).trans (((cell_far (p := ⟨gb349, _, none⟩) NB348_349.out _).trans (hHeld.2.2.1)))))))), ((cell_far (p := ⟨gb349, _, none⟩) NB348_349.out _).trans (((cell_far (p := ⟨gb349, _, none⟩) NB348_349.out _).trans (((cell_far (p := ⟨gb349, _, none⟩) NB348_349.out _).trans (((cell_far (p := ⟨gb349, _, none⟩) NB348_349.out _).trans (hHeld.2.2.2))))))))⟩ (fun hHeld => ?_)
  clear hK K
  refine done_ (done_of HT_.out (by kernel_rfl)) ?_
  try go_wp2
  refine bodyPost_ret (results_cell_row rfl _ _ gb349 25 #[.int .i64 t350, .int .i64 t351, .int .i64 t352, .int .i64 t353] (0, 0) _ rfl (by (with_reducible repeat (first | refine blk_drewN ?_ _ | refine blk_drew ?_ | refine blk_alloc ?_ _)); refine blk_put (cs := #[.int .i64 t350, .int .i64 t351, .int .i64 t352, .int .i64 0]) ?_ 3 _ rfl; (with_reducible repeat (first | refine blk_drewN ?_ _ | refine blk_drew ?_ | refine blk_alloc ?_ _)); refine blk_put (cs := #[.int .i64 t350, .int .i64 t351, .int .i64 0, .int .i64 0]) ?_ 2 _ rfl; (with_reducible repeat (first | refine blk_drewN ?_ _ | refine blk_drew ?_ | refine blk_alloc ?_ _)); refine blk_put (cs := #[.int .i64 t350, .int .i64 0, .int .i64 0, .int .i64 0]) ?_ 1 _ rfl; (with_reducible repeat (first | refine blk_drewN ?_ _ | refine blk_drew ?_ | refine blk_alloc ?_ _)); refine blk_put (cs := #[.int .i64 0, .int .i64 0, .int .i64 0, .int .i64 0]) ?_ 0 _ rfl; (with_reducible repeat (first | refine blk_drewN ?_ _ | refine blk_drew ?_ | refine blk_alloc ?_ _)); exact BK349.out) Try.underlying25 rfl (by kernel_rfl)) rfl ?_
  exact ⟨by first | rfl | (simp [errW_none, errW_some] <;> rfl) | (simp [*, errW_none, errW_some] <;> rfl), (ho_ HB)⟩

/-! ### spec_l1Sign: function 90 -/
def spec_l1Sign.f (a0 : Int) : Option (Int) := if a0 > 0 then (some 1) else (if a0 < 0 then (some (-1)) else (some 0))
set_option maxHeartbeats 8000000 in
set_option maxRecDepth 100000 in
theorem spec_l1Sign.calls (a0 : Int) (r : Int) (w : World) (h : spec_l1Sign.f a0 = some r) :
  Calls Try.prog 90 #[.int .i64 a0] w fun e w' => e = .returned (.int .i64 r) ∧ Drawn0 w w' := by
 have H : (if a0 > 0 then (some 1) else (if a0 < 0 then (some (-1)) else (some 0))) = some r := h
 clear h
 by_cases c2 : a0 > 0
 ·
  rw [if_pos c2] at H
  have c2b0 : decide (0 < a0) = true := decide_eq_true c2
  clear c2
  as_aux_lemma =>
   obtain rfl := Option.some.inj H
   go_enter Try.func90, Try.ntmps90
   go_wp2
   go_ret
   exact ⟨by first | rfl | (simp; done) | (simp [*]; done), by repeat (first | exact Drawn0.refl _ | apply Drawn0.step)⟩
 ·
  rw [if_neg c2] at H
  have c2b0 : decide (0 < a0) = false := decide_eq_false c2
  clear c2
  by_cases c3 : a0 < 0
  ·
   rw [if_pos c3] at H
   have c3b0 : decide (a0 < 0) = true := decide_eq_true c3
   clear c3
   as_aux_lemma =>
    obtain rfl := Option.some.inj H
    go_enter Try.func90, Try.ntmps90
    go_wp2
    go_ret
    exact ⟨by first | rfl | (simp; done) | (simp [*]; done), by repeat (first | exact Drawn0.refl _ | apply Drawn0.step)⟩
  ·
   rw [if_neg c3] at H
   have c3b0 : decide (a0 < 0) = false := decide_eq_false c3
   clear c3
   as_aux_lemma =>
    obtain rfl := Option.some.inj H
    go_enter Try.func90, Try.ntmps90
    go_wp2
    go_ret
    exact ⟨by first | rfl | (simp; done) | (simp [*]; done), by repeat (first | exact Drawn0.refl _ | apply Drawn0.step)⟩

end Go.Proofs.Ytkfcaldjepmffaa.GFnDialsTurnedOfAll
