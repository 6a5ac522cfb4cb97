-- Written by a program of this session (a copy of the kit's print program that takes contracts of one's own); Lean checks it.
import Derived.Test.YtkfcaldjepmffaaGFnSeenTrueOfAllx0
import Derived.Test.YtkfcaldjepmffaaGFnSeenTrueOfAllx1
import Derived.Test.YtkfcaldjepmffaaGFnSeenTrueOfAllx3
import Derived.Test.YtkfcaldjepmffaaGFnSeenTrueOfAllx4
import Derived.Test.YtkfcaldjepmffaaGFnSeenTrueOfAllx6
import Derived.Test.YtkfcaldjepmffaaGFnSeenTrueOfAllx7
namespace Go.Proofs.Ytkfcaldjepmffaa.GFnSeenTrueOfAll
open Go.RowKit Go.Proofs.YtkfcaldjepmffaaW.PrintWords Go.Proofs.YtkfcaldjepmffaaW.PrintLast Go.Proofs.YtkfcaldjepmffaaW.PrintMore
attribute [local go_sem] max2_int min2_int max_two min_two max_three min_three max_four min_four   -- for this text's walks alone
set_option linter.unusedVariables false
set_option linter.unusedSimpArgs false

attribute [local go_sem high] eqA23
/-! ### impl_sorted: function 52 -/
set_option maxHeartbeats 8000000 in
set_option maxRecDepth 100000 in
theorem pdq_calls (k : Nat) (u : Value) (l0 : List S23) (a1 a2 a3 : Int) (r : List S23) (w0 w : World) (hB : Below w0.heap.size w0 w) (ho0 : Kd.R k23 23 w w0.heap.size (fun _ => True) u l0) (hl : wrap64 (a2 - a1) ≤ 12) (h : impl_Turn_91.f k l0 a1 a2 = some r) :
  Calls Try.prog 86 #[u, .int .i64 a1, .int .i64 a2, .int .i64 a3, .func (.func 75) #[] #[]] w fun e w' => e = .returned (.tuple #[]) ∧ Kd.R k23 23 w' w0.heap.size (fun _ => True) u r ∧ Below w0.heap.size w0 w' := by
 have HF := Aside0.mk h
 have HR := Aside0.mk ho0
 have HB := Aside0.mk hB
 have hlb : decide (wrap64 (a2 - a1) ≤ 12) = true := decide_eq_true hl
 clear h ho0 hB hl
 go_enter Try.func86, Try.ntmps86
 go_wp2
 go_loopg [1, 2] 1 (fun gk v1 v2 w' => v1 = .int .i64 a1 ∧ v2 = .int .i64 a2 ∧ Aside0 (Kd.R k23 23 w' w0.heap.size (fun _ => True) u l0) ∧ Aside0 (Below w0.heap.size w0 w') ∧ gk = 1)
 case atStart => exact ⟨rfl, rfl, ⟨(by (with_reducible repeat (first | apply Kd.R_alloc | apply Kd.R_drewN | apply Kd.R_drew)); exact HR.out)⟩, hb_ HB, rfl⟩
 case round =>
  clear HR HB
  obtain ⟨rfl, rfl, HR, HB, rfl⟩ := hrel
  go_wp2_with (first | (go_at_call 91; (with_reducible refine (impl_Turn_91.calls k (fun _ => True) u l0 a1 a2 r w0 _ (ho_ HB) (by (with_reducible repeat (first | apply Kd.R_alloc | apply Kd.R_drewN | apply Kd.R_drew)); exact HR.out) HF.out).mono ?_); rintro e w1 ⟨rfl, hR, hb, _⟩; have HR1 := Aside0.mk (Kd.R_mono (ok' := fun _ => True) hR (fun _ _ => trivial)); have HB1 := Aside0.mk hb; clear hR hb))
  (first | go_end0 | ((try simp only [Exit.inBlock, Exit.then]); refine bodyPost_ret (results_none rfl _ _ _) rfl ?_))
  exact ⟨rfl, (by (with_reducible repeat (first | apply Kd.R_alloc | apply Kd.R_drewN | apply Kd.R_drew)); exact HR1.out), HB1.out⟩
set_option maxHeartbeats 8000000 in
set_option maxRecDepth 100000 in
theorem sort_calls (k : Nat) (u : Value) (l0 : List S23) (r : List S23) (w0 w : World) (hB : Below w0.heap.size w0 w) (ho0 : Kd.R k23 23 w w0.heap.size (fun _ => True) u l0) (hl : l0.length ≤ 12) (h : impl_Turn_91.f k l0 0 (l0.length : Int) = some r) :
  Calls Try.prog 74 #[u, .func (.func 75) #[] #[]] w fun e w' => e = .returned (.tuple #[]) ∧ Kd.R k23 23 w' w0.heap.size (fun _ => True) u r ∧ Below w0.heap.size w0 w' := by
 obtain ⟨A, c, rfl⟩ := Kd.R_slice ho0
 have HF := Aside0.mk h
 have HR := Aside0.mk ho0
 have HB := Aside0.mk hB
 have HL := Aside0.mk hl
 clear h ho0 hB hl
 go_enter Try.func74, Try.ntmps74
 go_wp2_with (first
  | (go_at_call 87; (refine (Sort.bits_Len _ _ ?h0 ?h1).mono ?_; (case h0 => have := HL.out; first | omega | (simp [IntKind.wrap, IntKind.signed, IntKind.bits]; omega)); (case h1 => have := HL.out; first | omega | (simp [IntKind.wrap, IntKind.signed, IntKind.bits]; omega)); rintro e w' ⟨rfl, rfl⟩))
  | (go_at_call 86; (with_reducible refine (pdq_calls k (.slice A l0.length c) l0 0 (l0.length : Int) _ r w0 _ (ho_ HB) (by (with_reducible repeat (first | apply Kd.R_alloc | apply Kd.R_drewN | apply Kd.R_drew)); exact HR.out) ?hl HF.out).mono ?_); (case hl => have := HL.out; unfold wrap64; omega); rintro e w1 ⟨rfl, hR, hb⟩; have HR1 := Aside0.mk hR; have HB1 := Aside0.mk hb; clear hR hb))
 go_end0
 exact ⟨rfl, (by (with_reducible repeat (first | apply Kd.R_alloc | apply Kd.R_drewN | apply Kd.R_drew)); exact HR1.out), HB1.out⟩

theorem run_clear_two (w : World) (b o c : Nat) (hc0 : (w.cell? ⟨b, o, none⟩).isSome = true) (hc1 : (w.cell? ⟨b, o + 1, none⟩).isSome = true) (hf0 : w.frozen? ⟨b, o, none⟩ = false) (hf1 : w.frozen? ⟨b, o + 1, none⟩ = false) :
  (Builtin.clear_ #[34] 0 #[.slice (some ⟨b, o, none⟩) 1 c]).run Try.prog w = .ok (.tuple #[]) (w.setCells b o [.int .i64 0, .int .i64 0]) := by
 have hv : ∀ w, (zeroValue 23).run Try.prog w = .ok (.agg #[.int .i64 0, .int .i64 0]) w := fun w => by
  have hi := info23
  cases hq : Try.prog.info? 23 with
  | none =>
   rw [hq] at hi
   cases hi
  | some i =>
   rw [hq] at hi
   simp only [Option.map_some, Option.some.injEq, Prod.mk.injEq] at hi
   simp [zeroValue, typeInfo, hq, hi.1]
 have hzc : (Builtin.zeroCells (Value.agg #[.int .i64 0, .int .i64 0]).cells 1).toList = [.int .i64 0, .int .i64 0] := by (simp [Builtin.zeroCells, Value.cells]; rfl)
 have hst := run_storeCells_cells (P := Try.prog) b o [.int .i64 0, .int .i64 0] 0 w (by
  intro j hj
  match j, hj with
  | 0, _ => simpa using hc0
  | 1, _ => simpa using hc1) (by
  intro j hj
  match j, hj with
  | 0, _ => simpa using hf0
  | 1, _ => simpa using hf1) (by
  intro v hv'
  simp at hv'
  subst hv'
  rfl)
 simp only [Nat.add_zero] at hst
 simp [Builtin.clear_, run_underlying Try.underlying34, hv, hzc, hst]
def cpt : List S23 → List S23
 | [p, q] => if q.f0 = p.f0 ∧ q.f1 = p.f1 then [p] else [p, q]
 | s => s

theorem eq23_ (w : World) (a b c d : Int) : (binOp .eql 23 (.agg #[.int .i64 a, .int .i64 b]) (.agg #[.int .i64 c, .int .i64 d])).run Try.prog w = .ok (.bool ((a == c) && (b == d))) w := by
 have h := eqA23 9998 w a c b d
 simp only [binOp]
 simp [Op.equal, Op.maxDepth, h]
set_option maxHeartbeats 8000000 in
set_option maxRecDepth 100000 in
theorem cpt_calls (u : Value) (l : List S23) (w0 w : World) (hB : Below w0.heap.size w0 w) (ho0 : Kd.R k23 23 w w0.heap.size (fun _ => True) u l) (hl : l.length ≤ 2) :
  Calls Try.prog 76 #[u] w fun e w' => ∃ v0_ : Value, e = .returned v0_ ∧ Kd.R k23 23 w' w0.heap.size (fun _ => True) v0_ (cpt l) ∧ Below w0.heap.size w0 w' := by
 have hu23 := Try.underlying23
 obtain ⟨A, c, rfl⟩ := Kd.R_slice ho0
 have HR := Aside0.mk ho0
 have HB := Aside0.mk hB
 clear ho0 hB
 by_cases z : l.length < 2
 ·
  have e : cpt l = l := by
   match l, z with
   | [], _ => rfl
   | [p], _ => rfl
  rw [e]
  have zb : decide ((l.length : Int) < 2) = true := decide_eq_true (by omega)
  clear z e hl
  go_enter Try.func76, Try.ntmps76
  go_wp2
  go_ret
  exact ⟨_, rfl, (by (with_reducible repeat (first | apply Kd.R_alloc | apply Kd.R_drewN | apply Kd.R_drew)); exact HR.out), (ho_ HB)⟩
 ·
  obtain ⟨p, q, rfl⟩ : ∃ p q, l = [p, q] := by
   cases l with
   | nil => exact absurd (show ([] : List S23).length < 2 by simp) z
   | cons p l =>
    cases l with
    | nil => exact absurd (show [p].length < 2 by simp) z
    | cons q l =>
     cases l with
     | nil => exact ⟨p, q, rfl⟩
     | cons _ _ => simp at hl
  clear z hl
  obtain ⟨g, cap, e0, gb, gl, cl, hG⟩ := Kd.R_form HR.out (by simp)
  injection e0 with e1 e2 e3
  subst e1 e3
  have hc2 : 2 ≤ c := by
   have := (Kd.R_reads' HR.out).2.1
   simpa using this
  have hcA : (c = 1) = False := eq_false (by omega)
  have hcB : (c - 1 = 0) = False := eq_false (by omega)
  have hcC : (c ≤ 1) = False := eq_false (by omega)
  have hcD : ((c : Int) < 1) = False := eq_false (by omega)
  have hcE : ((1 : Int) ≤ (c : Int)) = True := eq_true (by omega)
  clear e2 gb gl hG cl hc2
  have GB := Aside0.mk (show w0.heap.size ≤ g from Kd.R_base HR.out g rfl)
  have HS : Aside0 (∀ ww, Kd.R k23 23 ww w0.heap.size (fun _ => True) (.slice (some ⟨g, 0, none⟩) [p, q].length c) [p, q] → (ww.cell? ⟨g, 0, none⟩ = some (.int .i64 p.f0) ∧ ww.cell? ⟨g, 1, none⟩ = some (.int .i64 p.f1) ∧ ww.cell? ⟨g, 2, none⟩ = some (.int .i64 q.f0) ∧ ww.cell? ⟨g, 3, none⟩ = some (.int .i64 q.f1)) ∧ ww.frozen? ⟨g, 2, none⟩ = false ∧ ww.frozen? ⟨g, 3, none⟩ = false) := ⟨fun ww h => by
   obtain ⟨c0, hcl0, hM0, hcc0, hfr0⟩ := Kd.R_elem h z23 0 (by omega) (by simp)
   obtain ⟨c1, hcl1, hM1, hcc1, hfr1⟩ := Kd.R_elem h z23 1 (by omega) (by simp)
   obtain rfl := k23_openM hM0
   obtain rfl := k23_openM hM1
   exact ⟨⟨hcc0 0 _ rfl, hcc0 1 _ rfl, hcc1 0 _ rfl, hcc1 1 _ rfl⟩, hfr1 0, hfr1 1⟩⟩
  by_cases e : q.f0 = p.f0 ∧ q.f1 = p.f1
  ·
   have ec : cpt [p, q] = [p] := if_pos e
   rw [ec]
   clear ec
   have HE := Aside0.mk e
   clear e
   go_enter Try.func76, Try.ntmps76
   go_wp2
   go_loopg [3] 1 (fun gk v3 w' => v3 = .int .i64 1 ∧ Aside0 (Kd.R k23 23 w' w0.heap.size (fun _ => True) (.slice (some ⟨g, 0, none⟩) [p, q].length c) [p, q]) ∧ Aside0 (Below w0.heap.size w0 w') ∧ gk = 1)
   case atStart => exact ⟨rfl, ⟨(by (with_reducible repeat (first | apply Kd.R_alloc | apply Kd.R_drewN | apply Kd.R_drew)); exact HR.out)⟩, hb_ HB, rfl⟩
   case round =>
    clear HR HB
    obtain ⟨rfl, HR, HB, rfl⟩ := hrel
    obtain ⟨⟨x0, x1, x2, x3⟩, f2, f3⟩ := HS.out _ HR.out
    have hq_ : ∀ ww, (binOp .eql 23 (.agg #[.int .i64 q.f0, .int .i64 q.f1]) (.agg #[.int .i64 p.f0, .int .i64 p.f1])).run Try.prog ww = .ok (.bool true) ww := fun ww => by
     have := eq23_ ww q.f0 q.f1 p.f0 p.f1
     rw [this, beq_iff_eq.2 HE.out.1, beq_iff_eq.2 HE.out.2]
     rfl
    go_wp2
    go_region
    all_goals (try go_wp2)
    all_goals (go_loopg [3, 5] 1 (fun gk v3 v5 w' => v3 = .int .i64 1 ∧ v5 = .int .i64 1 ∧ Aside0 (Kd.R k23 23 w' w0.heap.size (fun _ => True) (.slice (some ⟨g, 0, none⟩) [p, q].length c) [p, q]) ∧ Aside0 (Below w0.heap.size w0 w') ∧ gk = 1))
    all_goals (try (case atStart => exact ⟨rfl, rfl, ⟨(by (with_reducible repeat (first | apply Kd.R_alloc | apply Kd.R_drewN | apply Kd.R_drew)); exact HR.out)⟩, hb_ HB, rfl⟩))
    all_goals (clear HR HB x0 x1 x2 x3 f2 f3; obtain ⟨rfl, rfl, HR, HB, rfl⟩ := hrel)
    all_goals (obtain ⟨⟨x0, x1, x2, x3⟩, f2, f3⟩ := HS.out _ HR.out)
    all_goals (have hcl_ : ∀ cc, (Builtin.clear_ #[34] 0 #[.slice (some ⟨g, 2, none⟩) 1 cc]).run Try.prog wr = .ok (.tuple #[]) (wr.setCells g 2 [.int .i64 0, .int .i64 0]) := fun cc => run_clear_two wr g 2 cc (by rw [x2]; rfl) (by rw [x3]; rfl) f2 f3)
    all_goals go_wp2
    all_goals go_ret
    all_goals refine ⟨_, rfl, ?_, ?_⟩
    all_goals first
     | (show Below w0.heap.size w0 ((wr.setCell ⟨g, 2, none⟩ (.int .i64 0)).setCell ⟨g, 3, none⟩ (.int .i64 0)); exact below_set (below_set HB.out GB.out) GB.out)
     | (obtain ⟨ce, hcl, hM, hcc, hfr⟩ := Kd.R_elem HR.out z23 1 (by omega) (by simp); obtain rfl := k23_openM hM; have HP := (Kd.R_seg HR.out 1 (by omega) (by simp) (seg := [.int .i64 0, .int .i64 0]) (j := 0) hcl hcc (show 2 ≤ 2 from by decide) (x' := (⟨0, 0⟩ : S23)) (k23_mkM _ _ _ (⟨0, 0⟩ : S23)) (fun _ hk => hk)).1; exact Kd.R_take (m := 1) HP (by simp))
  ·
   have ec : cpt [p, q] = [p, q] := if_neg e
   rw [ec]
   clear ec
   have HE := Aside0.mk e
   clear e
   go_enter Try.func76, Try.ntmps76
   go_wp2
   go_loopg [3] 2 (fun gk v3 w' => ∃ i : Int, v3 = .int .i64 i ∧ Aside0 (Kd.R k23 23 w' w0.heap.size (fun _ => True) (.slice (some ⟨g, 0, none⟩) [p, q].length c) [p, q]) ∧ Aside0 (Below w0.heap.size w0 w') ∧ (i = 1 ∧ gk = 2 ∨ i = 2 ∧ gk = 1))
   case atStart => exact ⟨1, rfl, ⟨(by (with_reducible repeat (first | apply Kd.R_alloc | apply Kd.R_drewN | apply Kd.R_drew)); exact HR.out)⟩, hb_ HB, Or.inl ⟨rfl, rfl⟩⟩
   case round =>
    clear HR HB
    obtain ⟨i, rfl, HR, HB, ⟨rfl, rfl⟩ | ⟨rfl, rfl⟩⟩ := hrel
    ·
     obtain ⟨⟨x0, x1, x2, x3⟩, f2, f3⟩ := HS.out _ HR.out
     have hq_ : ∀ ww, (binOp .eql 23 (.agg #[.int .i64 q.f0, .int .i64 q.f1]) (.agg #[.int .i64 p.f0, .int .i64 p.f1])).run Try.prog ww = .ok (.bool false) ww := fun ww => by
      rw [eq23_ ww q.f0 q.f1 p.f0 p.f1]
      have : (q.f0 == p.f0 && q.f1 == p.f1) = false := by
       rw [Bool.and_eq_false_iff]
       by_cases a : q.f0 = p.f0
       ·
        exact Or.inr (beq_eq_false_iff_ne.2 fun b => HE.out ⟨a, b⟩)
       ·
        exact Or.inl (beq_eq_false_iff_ne.2 a)
      rw [this]
     go_wp2
     go_region
     all_goals (try go_wp2)
     all_goals (go_roundg 1)
     all_goals (try (case measure => omega))
     all_goals exact ⟨2, rfl, ⟨(by (with_reducible repeat (first | apply Kd.R_alloc | apply Kd.R_drewN | apply Kd.R_drew)); exact HR.out)⟩, hb_ HB, Or.inr ⟨rfl, rfl⟩⟩
    ·
     go_wp2
     go_ret
     exact ⟨_, rfl, (by (with_reducible repeat (first | apply Kd.R_alloc | apply Kd.R_drewN | apply Kd.R_drew)); exact HR.out), (ho_ HB)⟩

def impl_sorted.f (k : Nat) (l0 : List S23) : Option (List S23) := if l0.length ≤ 2 then (impl_Turn_73.f l0).bind fun c => if c.length ≤ 2 then (impl_Turn_91.f k c 0 (c.length : Int)).bind fun s => if s.length ≤ 2 then some (cpt s) else none else none else none
theorem impl_sorted.mono : ∀ a0 k, LeO (impl_sorted.f k a0) (impl_sorted.f (k + 1) a0) := fun a0 k => by
 unfold impl_sorted.f
 exact LeO.ite (LeO.bind (LeO.refl _) (fun _ => LeO.ite (LeO.bind (impl_Turn_91.mono _ _ _ _) (fun _ => LeO.refl _)) (LeO.refl _))) (LeO.refl _)
set_option maxHeartbeats 8000000 in
set_option maxRecDepth 100000 in
theorem impl_sorted.calls (k : Nat) (A0 : Option Addr) (c0 : Nat) (l0 : List (S23)) (r : List (S23)) (w : World) (hr0 : Kd.C k23 w A0 l0.length l0) (hc0 : l0.length ≤ c0) (h : impl_sorted.f k l0 = some r) :
  Calls Try.prog 52 #[.slice A0 l0.length c0] w fun e w' => ∃ v0_ : Value, e = .returned (v0_) ∧ Kd.R k23 23 w' w.heap.size (fun _ => True) v0_ r ∧ Below w.heap.size w w' := by
 unfold impl_sorted.f at h
 by_cases z0 : l0.length ≤ 2
 ·
  rw [if_pos z0] at h
  obtain ⟨cl, h1, h⟩ := Option.bind_eq_some_iff.mp h
  by_cases z1 : cl.length ≤ 2
  ·
   rw [if_pos z1] at h
   obtain ⟨sl, h2, h⟩ := Option.bind_eq_some_iff.mp h
   by_cases z2 : sl.length ≤ 2
   ·
    rw [if_pos z2] at h
    obtain rfl := Option.some.inj h
    have H1 := Aside0.mk h1
    have H2 := Aside0.mk h2
    have Z1 := Aside0.mk z1
    have Z2 := Aside0.mk z2
    have HR0 := Aside0.mk hr0
    have HC0 := Aside0.mk hc0
    have HB := Aside0.mk (Below.refl w.heap.size w)
    clear h h1 h2 z0 z1 z2 hr0 hc0
    go_enter Try.func52, Try.ntmps52
    go_wp2_with (first
     | (go_at_call 73; ((with_reducible refine (impl_Turn_73.calls A0 c0 l0 cl _ ?side1 HC0.out H1.out).mono ?_); (case side1 => repeat (first | exact (Kd.C_below HR0.out (ho_ HB)) | (with_reducible refine Kd.C_alloc ?_ _) | (with_reducible refine Kd.C_drewN ?_ _) | (with_reducible refine Kd.C_drew ?_))); rintro e w1 ⟨v1, rfl, hR, hb⟩; have HR1 := Aside0.mk (Kd.R_lower hR (bs_ HB)); have n_ := hs HB hb; clear HB; have HB := n_; clear n_ hR hb))
     | (go_at_call 74; ((with_reducible refine (sort_calls k v1 cl sl w _ (ho_ HB) (by (with_reducible repeat (first | apply Kd.R_alloc | apply Kd.R_drewN | apply Kd.R_drew)); exact HR1.out) ?hl H2.out).mono ?_); (case hl => have := Z1.out; omega); rintro e w2 ⟨rfl, hR, hb⟩; clear HB; have HR2 := Aside0.mk hR; have HB := Aside0.mk hb; clear hR hb))
     | (go_at_call 76; ((with_reducible refine (cpt_calls v1 sl w _ (ho_ HB) (by (with_reducible repeat (first | apply Kd.R_alloc | apply Kd.R_drewN | apply Kd.R_drew)); exact HR2.out) Z2.out).mono ?_); rintro e w3 ⟨v2, rfl, hR, hb⟩; clear HB; have HR3 := Aside0.mk hR; have HB := Aside0.mk hb; clear hR hb)))
    go_ret
    exact ⟨_, rfl, (by (with_reducible repeat (first | apply Kd.R_alloc | apply Kd.R_drewN | apply Kd.R_drew)); exact HR3.out), (ho_ HB)⟩
   ·
    rw [if_neg z2] at h
    cases h
  ·
   rw [if_neg z1] at h
   cases h
 ·
  rw [if_neg z0] at h
  cases h

/-! ### impl_TimesAlike: function 12 -/
def impl_TimesAlike.j0 : Nat → Int → List (S23) → Int → Int → Int → Int → Option ((List (S23)) × Bool)
 | 0, _, _, _, _, _, _ => none
 | k + 1, x0, x6, x244000, x244001, x244002, x244003 => (impl_Seen_exchanged.f x244000 x244001 x244002 x244003).bind fun bt252 => ((impl_isTrue.f k x0 bt252.1 bt252.2.1 bt252.2.2.1 bt252.2.2.2).bind fun t256 => (if t256 = true then (if x6.length < 8796093022208 then ((impl_sorted.f k (x6 ++ [(⟨x244002, x244003⟩ : S23)])).bind fun t260 => (some (t260, true))) else (none)) else ((impl_sorted.f k x6).bind fun t263 => (some (t263, true)))))
def impl_TimesAlike.f (k : Nat) (a0 : Int) (a1_0 : Int) (a1_1 : Int) (a1_2 : Int) (a1_3 : Int) : Option ((List (S23)) × Bool) := (impl_isSeenOf.f k a0 a1_0 a1_1 a1_2 a1_3).bind fun t244 => (if t244 = true then ((some (([] : List (S23)) : List (S23))).bind fun y245 => ((impl_isTrue.f k a0 a1_0 a1_1 a1_2 a1_3).bind fun t248 => (if t248 = true then (if y245.length < 8796093022208 then (impl_TimesAlike.j0 k a0 (y245 ++ [(⟨a1_0, a1_1⟩ : S23)]) a1_0 a1_1 a1_2 a1_3) else (none)) else (impl_TimesAlike.j0 k a0 y245 a1_0 a1_1 a1_2 a1_3)))) else (some (([] : List (S23)), false)))
theorem impl_TimesAlike.mono_l : ∀ k, (∀ y0 y1 y2 y3 y4 y5, LeO (impl_TimesAlike.j0 k y0 y1 y2 y3 y4 y5) (impl_TimesAlike.j0 (k + 1) y0 y1 y2 y3 y4 y5))
 | 0 => fun _ _ _ _ _ _ r h => by simp [impl_TimesAlike.j0] at h
 | k + 1 => by
  have ih0 := impl_TimesAlike.mono_l k
  ·
   intro y0 y1 y2 y3 y4 y5
   unfold impl_TimesAlike.j0
   repeat' first
   | (with_reducible exact ih0 _ _ _ _ _ _)
   | (with_reducible exact impl_isSeenOf.mono _ _ _ _ _ _)
   | (with_reducible exact impl_isTrue.mono _ _ _ _ _ _)
   | (with_reducible exact impl_sorted.mono _ _)
   | (with_reducible exact LeO.refl _)
   | (with_reducible exact LeO.none _)
   | (with_reducible refine LeO.ite ?_ ?_)
   | (with_reducible refine LeO.bind ?_ (fun _ => ?_))
   | exact ih0 _ _ _ _ _ _
   | exact impl_isSeenOf.mono _ _ _ _ _ _
   | exact impl_isTrue.mono _ _ _ _ _ _
   | exact impl_sorted.mono _ _
   | exact LeO.none _
   | refine LeO.ite ?_ ?_
   | refine LeO.bind ?_ (fun _ => ?_)
theorem impl_TimesAlike.mono : ∀ a0 a1 a2 a3 a4 k, LeO (impl_TimesAlike.f k a0 a1 a2 a3 a4) (impl_TimesAlike.f (k + 1) a0 a1 a2 a3 a4) := by
 intro a0 a1 a2 a3 a4 k
 have ih0 := impl_TimesAlike.mono_l k
 unfold impl_TimesAlike.f
 repeat' first
   | (with_reducible exact ih0 _ _ _ _ _ _)
   | (with_reducible exact impl_isSeenOf.mono _ _ _ _ _ _)
   | (with_reducible exact impl_isTrue.mono _ _ _ _ _ _)
   | (with_reducible exact impl_sorted.mono _ _)
   | (with_reducible exact LeO.refl _)
   | (with_reducible exact LeO.none _)
   | (with_reducible refine LeO.ite ?_ ?_)
   | (with_reducible refine LeO.bind ?_ (fun _ => ?_))
   | exact ih0 _ _ _ _ _ _
   | exact impl_isSeenOf.mono _ _ _ _ _ _
   | exact impl_isTrue.mono _ _ _ _ _ _
   | exact impl_sorted.mono _ _
   | exact LeO.none _
   | refine LeO.ite ?_ ?_
   | refine LeO.bind ?_ (fun _ => ?_)
set_option maxHeartbeats 8000000 in
set_option maxRecDepth 100000 in
theorem impl_TimesAlike.calls (k : Nat) (a0 : Int) (a1_0 : Int) (a1_1 : Int) (a1_2 : Int) (a1_3 : Int) (r1 : List (S23)) (r2 : Bool) (w : World) (h : impl_TimesAlike.f k a0 a1_0 a1_1 a1_2 a1_3 = some (r1, r2)) :
  Calls Try.prog 12 #[.int .i64 a0, .agg #[.int .i64 a1_0, .int .i64 a1_1, .int .i64 a1_2, .int .i64 a1_3]] w fun e w' => ∃ v0_ : Value, e = .returned (.tuple #[v0_, .bool r2]) ∧ Kd.R k23 23 w' w.heap.size (fun _ => True) v0_ r1 ∧ Below w.heap.size w w' := by
 have hu25 := Try.underlying25
 have hu23 := Try.underlying23
 have HB := Aside0.mk (Below.refl w.heap.size w)
 have H : ((impl_isSeenOf.f k a0 a1_0 a1_1 a1_2 a1_3).bind fun t244 => (if t244 = true then ((some (([] : List (S23)) : List (S23))).bind fun y245 => ((impl_isTrue.f k a0 a1_0 a1_1 a1_2 a1_3).bind fun t248 => (if t248 = true then (if y245.length < 8796093022208 then (impl_TimesAlike.j0 k a0 (y245 ++ [(⟨a1_0, a1_1⟩ : S23)]) a1_0 a1_1 a1_2 a1_3) else (none)) else (impl_TimesAlike.j0 k a0 y245 a1_0 a1_1 a1_2 a1_3)))) else (some (([] : List (S23)), false)))) = some (r1, r2) := h
 clear h
 replace H := Option.bind_eq_some_iff.mp H
 obtain ⟨t244, A30, H⟩ := H
 replace H : (if t244 = true then ((some (([] : List (S23)) : List (S23))).bind fun y245 => ((impl_isTrue.f k a0 a1_0 a1_1 a1_2 a1_3).bind fun t248 => (if t248 = true then (if y245.length < 8796093022208 then (impl_TimesAlike.j0 k a0 (y245 ++ [(⟨a1_0, a1_1⟩ : S23)]) a1_0 a1_1 a1_2 a1_3) else (none)) else (impl_TimesAlike.j0 k a0 y245 a1_0 a1_1 a1_2 a1_3)))) else (some (([] : List (S23)), false))) = some (r1, r2) := H
 have A3 := Aside0.mk A30
 clear A30
 by_cases c4 : t244 = true
 ·
  subst c4
  have H1 : ((some (([] : List (S23)) : List (S23))).bind fun y245 => ((impl_isTrue.f k a0 a1_0 a1_1 a1_2 a1_3).bind fun t248 => (if t248 = true then (if y245.length < 8796093022208 then (impl_TimesAlike.j0 k a0 (y245 ++ [(⟨a1_0, a1_1⟩ : S23)]) a1_0 a1_1 a1_2 a1_3) else (none)) else (impl_TimesAlike.j0 k a0 y245 a1_0 a1_1 a1_2 a1_3)))) = some (r1, r2) := by rw [if_pos rfl] at H; exact H
  clear H
  have H := H1
  clear H1
  obtain ⟨y245, hy245⟩ : ∃ y_ : List (S23), y_ = (([] : List (S23))) := ⟨_, rfl⟩
  replace H : ((impl_isTrue.f k a0 a1_0 a1_1 a1_2 a1_3).bind fun t248 => (if t248 = true then (if y245.length < 8796093022208 then (impl_TimesAlike.j0 k a0 (y245 ++ [(⟨a1_0, a1_1⟩ : S23)]) a1_0 a1_1 a1_2 a1_3) else (none)) else (impl_TimesAlike.j0 k a0 y245 a1_0 a1_1 a1_2 a1_3))) = some (r1, r2) := by first | (rw [hy245]; with_reducible exact H) | (have H2_ := (Option.bind_some _ _).symm.trans H; rw [hy245]; with_reducible exact H2_) | (have H2_ := (Option.bind_some _ _).symm.trans H; with_reducible exact H2_) | with_reducible exact H | (rw [hy245]; exact H) | exact H
  have Ny245 := Aside0.mk hy245
  clear hy245
  replace H := Option.bind_eq_some_iff.mp H
  obtain ⟨t248, A50, H⟩ := H
  replace H : (if t248 = true then (if y245.length < 8796093022208 then (impl_TimesAlike.j0 k a0 (y245 ++ [(⟨a1_0, a1_1⟩ : S23)]) a1_0 a1_1 a1_2 a1_3) else (none)) else (impl_TimesAlike.j0 k a0 y245 a1_0 a1_1 a1_2 a1_3)) = some (r1, r2) := H
  have A5 := Aside0.mk A50
  clear A50
  have HC6 := Aside0.mk H
  clear H
  go_enter Try.func12, Try.ntmps12
  go_upto_if 14 with (first | ((with_reducible refine gate_dst (N := 3) rfl ?_); refine be_ (N := 3) (cs := #[.int .i64 a1_0, .int .i64 a1_1, .int .i64 a1_2, .int .i64 a1_3]) (t := 25) ?_; intro gb243 hg w7 hbox hb; have BK243 := Aside0.mk (hbox); have GW243 := ge_ HB hg; have GE243 := ge_ HB hg; replace HB := hs HB hb; clear hb hbox hg; have hcz8_0 := cz_ BK243 0 (.int .i64 a1_0); have hcz8_1 := cz_ BK243 1 (.int .i64 a1_1); have hcz8_2 := cz_ BK243 2 (.int .i64 a1_2); have hcz8_3 := cz_ BK243 3 (.int .i64 a1_3); have hfz8_0 := blk_frozen BK243.out 0; have hfz8_1 := blk_frozen BK243.out 1; have hfz8_2 := blk_frozen BK243.out 2; have hfz8_3 := blk_frozen BK243.out 3) | ((with_reducible refine gate_callee (f := 50) rfl ?_); refine gs_ (some 9) Try.func50 #[.int .i64 a0, .agg #[.int .i64 a1_0, .int .i64 a1_1, .int .i64 a1_2, .int .i64 a1_3]] ?_; (with_reducible refine (impl_isSeenOf.calls k a0 a1_0 a1_1 a1_2 a1_3 true _ A3.out).mono ?_); rintro e w9 ⟨rfl, hb⟩; refine ⟨_, rfl, ?_⟩; replace BK243 := bb BK243 hb; replace HB := hs HB hb; (try clear hb); (try clear hb2); (try clear hk); (try clear hi)) | ((with_reducible refine gate_dst (N := 11) rfl ?_); refine Kd.R_lit k23 _ 23 ?hg (N := 11) ?hd (xs := ([] : List (S23))) (inner := []) (ok := fun _ => True) (okp := fun _ => True) ?hr ?hp (fun _ hk => hk) trivial (Below.refl _ _) (Nat.le_refl _) (by simp) ?_; (case hd => rfl); (case hg => rfl); (case hr => first | (go_simp; done) | (go_simp; rfl)); (case hp => exact (Reps.none _ _)); intro v246 w10 ho11 hb hg_ hnew_; clear hg_ hnew_; (first | rw [← Ny245.out] at ho11 | (simp only [Int.reduceToNat] at ho11; rw [← Ny245.out] at ho11)); have HO247 := Aside0.mk (Kd.R_lower ho11 (bs_ HB)); replace BK243 := bb BK243 hb; replace HB := hs HB hb; clear hb ho11; have hcz12_0 := cz_ BK243 0 (.int .i64 a1_0); have hcz12_1 := cz_ BK243 1 (.int .i64 a1_1); have hcz12_2 := cz_ BK243 2 (.int .i64 a1_2); have hcz12_3 := cz_ BK243 3 (.int .i64 a1_3); have hfz12_0 := blk_frozen BK243.out 0; have hfz12_1 := blk_frozen BK243.out 1; have hfz12_2 := blk_frozen BK243.out 2; have hfz12_3 := blk_frozen BK243.out 3) | ((with_reducible refine gate_callee (f := 51) rfl ?_); refine gs_ (some 14) Try.func51 #[.int .i64 a0, .agg #[.int .i64 a1_0, .int .i64 a1_1, .int .i64 a1_2, .int .i64 a1_3]] ?_; (with_reducible refine (impl_isTrue.calls k a0 a1_0 a1_1 a1_2 a1_3 t248 _ A5.out).mono ?_); rintro e w13 ⟨rfl, hb⟩; refine ⟨_, rfl, ?_⟩; replace HO247 := hr_ HO247 hb; replace BK243 := bb BK243 hb; replace HB := hs HB hb; (try clear hb); (try clear hb2); (try clear hk); (try clear hi)))
  (try simp only [Act.put, List.setIfInBounds_toArray, List.set_cons_zero, List.set_cons_succ])
  go_cut [6] (fun v6 wc => ∃ (kq : Nat) (x6_5 : List (S23)), Aside0 (impl_TimesAlike.j0 kq a0 x6_5 a1_0 a1_1 a1_2 a1_3 = some (r1, r2)) ∧ Aside0 (kq ≤ k) ∧ Aside0 (Kd.R k23 23 wc w.heap.size (fun _ => True) v6 x6_5) ∧ Aside0 (wc.heap[gb243]? = some (.cells #[.int .i64 a1_0, .int .i64 a1_1, .int .i64 a1_2, .int .i64 a1_3] 25 (0, 0))) ∧ Aside0 (Below w.heap.size w wc))
  case first =>
   have H := HC6.out
   clear HC6
   by_cases c14 : t248 = true
   ·
    subst c14
    have H1 : (if y245.length < 8796093022208 then (impl_TimesAlike.j0 k a0 (y245 ++ [(⟨a1_0, a1_1⟩ : S23)]) a1_0 a1_1 a1_2 a1_3) else (none)) = some (r1, r2) := by rw [if_pos rfl] at H; exact H
    clear H
    have H := H1
    clear H1
    by_cases c15 : y245.length < 8796093022208
    ·
     rw [if_pos c15] at H
     have LMc15 := Aside0.mk c15
     clear c15
     obtain ⟨y249, hy249⟩ : ∃ y_ : List (S23), y_ = (y245 ++ [(⟨a1_0, a1_1⟩ : S23)]) := ⟨_, rfl⟩
     replace H : (impl_TimesAlike.j0 k a0 y249 a1_0 a1_1 a1_2 a1_3) = some (r1, r2) := by first | (rw [hy249]; with_reducible exact H) | (have H2_ := (Option.bind_some _ _).symm.trans H; rw [hy249]; with_reducible exact H2_) | (have H2_ := (Option.bind_some _ _).symm.trans H; with_reducible exact H2_) | with_reducible exact H | (rw [hy249]; exact H) | exact H
     have Ny249 := Aside0.mk hy249
     clear hy249
     as_aux_lemma =>
      have H' := Aside0.mk H
      clear H
      have hcz16_0 := cz_ BK243 0 (.int .i64 a1_0)
      have hcz16_1 := cz_ BK243 1 (.int .i64 a1_1)
      have hcz16_2 := cz_ BK243 2 (.int .i64 a1_2)
      have hcz16_3 := cz_ BK243 3 (.int .i64 a1_3)
      have hfz16_0 := blk_frozen BK243.out 0
      have hfz16_1 := blk_frozen BK243.out 1
      have hfz16_2 := blk_frozen BK243.out 2
      have hfz16_3 := blk_frozen BK243.out 3
      go_wp2_with (first | ((with_reducible refine gate_builtin (b := .append) (xs := #[.tmp 15, .tmp 18]) rfl ?_); at_builtin; refine Kd.R_append k23 (w0 := w) w.heap.size rfl (.tmp 15) (.tmp 18) 34 23 (.agg #[(.int .i64 0), (.int .i64 0)]) 16 rfl Try.underlying34 info23 rfl (by decide) (by omega) v246 y245 (⟨a1_0, a1_1⟩ : S23) [.int .i64 a1_0, .int .i64 a1_1] (fun _ => True) (fun _ => False) rfl rfl ?aP (fun _ hk => hk.elim) ?aF ?aO ?aB ?aS ?aL ?_; (case aP => exact k23_mkM _ _ _ (⟨a1_0, a1_1⟩ : S23)); (case aB => exact (ho_ HB)); (case aF => exact (fun _ _ => trivial)); (case aO => exact (by (with_reducible repeat (first | apply Kd.R_alloc | apply Kd.R_drewN | apply Kd.R_drew)); exact HO247.out)); (case aS => exact (bs_ HB)); (case aL => have := LMc15.out; omega); intro v250 w17 ho hb hg hat; rw [← Ny249.out] at ho; have n0_ := Aside0.mk (blk_grown (g := gb243) (o := .cells #[.int .i64 a1_0, .int .i64 a1_1, .int .i64 a1_2, .int .i64 a1_3] 25 (0, 0)) (by (with_reducible repeat (first | refine blk_drewN ?_ _ | refine blk_drew ?_ | refine blk_alloc ?_ _)); exact BK243.out) hg (Kd.R_ne HO247.out BK243.out (by decide))); have n1_ := Aside0.mk (hb); have n2_ := Aside0.mk (ho); clear BK243; clear HB; clear HO247; have BK243 := n0_; have HB := n1_; have HO251 := n2_; clear n0_ n1_ n2_; clear ho hb hg hat))
      go_meet
      case rel => exact ⟨_, (y249), H', ⟨by first | omega | exact Nat.le_refl _⟩, ⟨by (with_reducible repeat (first | apply Kd.R_alloc | apply Kd.R_drewN | apply Kd.R_drew)); exact HO251.out⟩, bk_ BK243, hb_ HB⟩
    ·
     rw [if_neg c15] at H
     exact absurd H (by simp)
   ·
    replace c14 := Bool.eq_false_iff.mpr c14
    subst c14
    have H1 : (impl_TimesAlike.j0 k a0 y245 a1_0 a1_1 a1_2 a1_3) = some (r1, r2) := by rw [if_neg (show ¬ (false = true) by decide)] at H; exact H
    clear H
    have H := H1
    clear H1
    as_aux_lemma =>
     have H' := Aside0.mk H
     clear H
     go_wp2
     go_meet
     case rel => exact ⟨_, (y245), H', ⟨by first | omega | exact Nat.le_refl _⟩, ⟨by (with_reducible repeat (first | apply Kd.R_alloc | apply Kd.R_drewN | apply Kd.R_drew)); exact HO247.out⟩, bk_ BK243, hb_ HB⟩
  case rest =>
   clear HC6
   try clear c4
   obtain ⟨kq, x6_5, HA, HJ5, HO_6, BK243, HB⟩ := hcut
   cases kq with
   | zero => exact absurd HA.out (by simp [impl_TimesAlike.j0])
   | succ kj5 =>
    have H := HA.out
    clear HA
    simp only [impl_TimesAlike.j0] at H
    replace H := Option.bind_eq_some_iff.mp H
    obtain ⟨⟨t252, t253, t254, t255⟩, A180, H⟩ := H
    replace H : ((impl_isTrue.f kj5 a0 t252 t253 t254 t255).bind fun t256 => (if t256 = true then (if x6_5.length < 8796093022208 then ((impl_sorted.f kj5 (x6_5 ++ [(⟨a1_2, a1_3⟩ : S23)])).bind fun t260 => (some (t260, true))) else (none)) else ((impl_sorted.f kj5 x6_5).bind fun t263 => (some (t263, true))))) = some (r1, r2) := H
    have A18 := Aside0.mk A180
    clear A180
    replace H := Option.bind_eq_some_iff.mp H
    obtain ⟨t256, A190, H⟩ := H
    replace H : (if t256 = true then (if x6_5.length < 8796093022208 then ((impl_sorted.f kj5 (x6_5 ++ [(⟨a1_2, a1_3⟩ : S23)])).bind fun t260 => (some (t260, true))) else (none)) else ((impl_sorted.f kj5 x6_5).bind fun t263 => (some (t263, true)))) = some (r1, r2) := H
    have A19 := Aside0.mk A190
    clear A190
    by_cases c20 : t256 = true
    ·
     subst c20
     have H1 : (if x6_5.length < 8796093022208 then ((impl_sorted.f kj5 (x6_5 ++ [(⟨a1_2, a1_3⟩ : S23)])).bind fun t260 => (some (t260, true))) else (none)) = some (r1, r2) := by rw [if_pos rfl] at H; exact H
     clear H
     have H := H1
     clear H1
     by_cases c21 : x6_5.length < 8796093022208
     ·
      rw [if_pos c21] at H
      have LMc21 := Aside0.mk c21
      clear c21
      obtain ⟨y257, hy257⟩ : ∃ y_ : List (S23), y_ = (x6_5 ++ [(⟨a1_2, a1_3⟩ : S23)]) := ⟨_, rfl⟩
      replace H : ((impl_sorted.f kj5 y257).bind fun t260 => (some (t260, true))) = some (r1, r2) := by first | (rw [hy257]; with_reducible exact H) | (have H2_ := (Option.bind_some _ _).symm.trans H; rw [hy257]; with_reducible exact H2_) | (have H2_ := (Option.bind_some _ _).symm.trans H; with_reducible exact H2_) | with_reducible exact H | (rw [hy257]; exact H) | exact H
      have Ny257 := Aside0.mk hy257
      clear hy257
      replace H := Option.bind_eq_some_iff.mp H
      obtain ⟨t260, A220, H⟩ := H
      replace H : (some (t260, true)) = some (r1, r2) := H
      have A22 := Aside0.mk A220
      clear A220
      as_aux_lemma =>
       simp only [Option.some.injEq, Prod.mk.injEq] at H
       obtain ⟨rfl, rfl⟩ := H
       have hcz23_0 := cz_ BK243 0 (.int .i64 a1_0)
       have hcz23_1 := cz_ BK243 1 (.int .i64 a1_1)
       have hcz23_2 := cz_ BK243 2 (.int .i64 a1_2)
       have hcz23_3 := cz_ BK243 3 (.int .i64 a1_3)
       have hfz23_0 := blk_frozen BK243.out 0
       have hfz23_1 := blk_frozen BK243.out 1
       have hfz23_2 := blk_frozen BK243.out 2
       have hfz23_3 := blk_frozen BK243.out 3
       go_wp2_with (first | ((with_reducible refine gate_callee (f := 42) rfl ?_); refine gs_ (some 22) Try.func42 #[.agg #[.int .i64 a1_0, .int .i64 a1_1, .int .i64 a1_2, .int .i64 a1_3]] ?_; (with_reducible refine (impl_Seen_exchanged.calls a1_0 a1_1 a1_2 a1_3 t252 t253 t254 t255 _ A18.out).mono ?_); rintro e w24 ⟨rfl, hb⟩; refine ⟨_, rfl, ?_⟩; replace HO_6 := hr_ HO_6 hb; replace BK243 := bb BK243 hb; replace HB := hs HB hb; (try clear hb); (try clear hb2); (try clear hk); (try clear hi)) | ((with_reducible refine gate_callee (f := 51) rfl ?_); refine gs_ (some 23) Try.func51 #[.int .i64 a0, .agg #[.int .i64 t252, .int .i64 t253, .int .i64 t254, .int .i64 t255]] ?_; (with_reducible refine (impl_isTrue.calls kj5 a0 t252 t253 t254 t255 true _ A19.out).mono ?_); rintro e w25 ⟨rfl, hb⟩; refine ⟨_, rfl, ?_⟩; replace HO_6 := hr_ HO_6 hb; replace BK243 := bb BK243 hb; replace HB := hs HB hb; (try clear hb); (try clear hb2); (try clear hk); (try clear hi); have hcz26_0 := cz_ BK243 0 (.int .i64 a1_0); have hcz26_1 := cz_ BK243 1 (.int .i64 a1_1); have hcz26_2 := cz_ BK243 2 (.int .i64 a1_2); have hcz26_3 := cz_ BK243 3 (.int .i64 a1_3); have hfz26_0 := blk_frozen BK243.out 0; have hfz26_1 := blk_frozen BK243.out 1; have hfz26_2 := blk_frozen BK243.out 2; have hfz26_3 := blk_frozen BK243.out 3) | ((with_reducible refine gate_builtin (b := .append) (xs := #[.tmp 24, .tmp 27]) rfl ?_); at_builtin; refine Kd.R_append k23 (w0 := w) w.heap.size rfl (.tmp 24) (.tmp 27) 34 23 (.agg #[(.int .i64 0), (.int .i64 0)]) 16 rfl Try.underlying34 info23 rfl (by decide) (by omega) u6 x6_5 (⟨a1_2, a1_3⟩ : S23) [.int .i64 a1_2, .int .i64 a1_3] (fun _ => True) (fun _ => False) rfl rfl ?aP (fun _ hk => hk.elim) ?aF ?aO ?aB ?aS ?aL ?_; (case aP => exact k23_mkM _ _ _ (⟨a1_2, a1_3⟩ : S23)); (case aB => exact (ho_ HB)); (case aF => exact (fun _ _ => trivial)); (case aO => exact (by (with_reducible repeat (first | apply Kd.R_alloc | apply Kd.R_drewN | apply Kd.R_drew)); exact HO_6.out)); (case aS => exact (bs_ HB)); (case aL => have := LMc21.out; omega); intro v258 w27 ho hb hg hat; rw [← Ny257.out] at ho; have n0_ := Aside0.mk (blk_grown (g := gb243) (o := .cells #[.int .i64 a1_0, .int .i64 a1_1, .int .i64 a1_2, .int .i64 a1_3] 25 (0, 0)) (by (with_reducible repeat (first | refine blk_drewN ?_ _ | refine blk_drew ?_ | refine blk_alloc ?_ _)); exact BK243.out) hg (Kd.R_ne HO_6.out BK243.out (by decide))); have n1_ := Aside0.mk (hb); have n2_ := Aside0.mk (ho); clear BK243; clear HB; clear HO_6; have BK243 := n0_; have HB := n1_; have HO259 := n2_; clear n0_ n1_ n2_; clear ho hb hg hat; obtain ⟨Ao28, co28, eo28⟩ := Kd.R_slice HO259.out; subst eo28) | ((with_reducible refine gate_callee (f := 52) rfl ?_); refine gs_ (some 30) Try.func52 #[.slice Ao28 y257.length co28] ?_; (with_reducible refine (impl_sorted.calls kj5 _ _ y257 t260 _ ?side1 ?side2 A22.out).mono ?_); (case side1 => repeat (first | exact (Kd.R_reads' HO259.out).2.2 | (with_reducible refine Kd.C_alloc ?_ _) | (with_reducible refine Kd.C_drewN ?_ _) | (with_reducible refine Kd.C_drew ?_))); (case side2 => exact (Kd.R_reads' HO259.out).2.1); rintro e w29 ⟨v261, rfl, ho0, hb⟩; refine ⟨_, rfl, ?_⟩; have HO262 := Aside0.mk (Kd.R_lower (Kd.R_new' ho0 (Kd.R_lt (by (with_reducible repeat (first | apply Kd.R_alloc | apply Kd.R_drewN | apply Kd.R_drew)); exact HO259.out))) (bs_ HB)); replace HO259 := Aside0.mk (Kd.R_elder' (by (with_reducible repeat (first | apply Kd.R_alloc | apply Kd.R_drewN | apply Kd.R_drew)); exact HO259.out) (Kd.R_base ho0) hb); replace BK243 := bb BK243 hb; replace HB := hs HB hb; (try clear hb); (try clear hb2); (try clear hk); (try clear hi); (try clear ho0)))
       go_ret2
       exact ⟨_, by first | rfl | (simp [errW_none, errW_some] <;> rfl) | (simp [*, errW_none, errW_some] <;> rfl), by (with_reducible repeat (first | apply Kd.R_alloc | apply Kd.R_drewN | apply Kd.R_drew)); exact Kd.R_mono HO262.out (fun _ hk => trivial), (ho_ HB)⟩
     ·
      rw [if_neg c21] at H
      exact absurd H (by simp)
    ·
     replace c20 := Bool.eq_false_iff.mpr c20
     subst c20
     have H1 : ((impl_sorted.f kj5 x6_5).bind fun t263 => (some (t263, true))) = some (r1, r2) := by rw [if_neg (show ¬ (false = true) by decide)] at H; exact H
     clear H
     have H := H1
     clear H1
     replace H := Option.bind_eq_some_iff.mp H
     obtain ⟨t263, A300, H⟩ := H
     replace H : (some (t263, true)) = some (r1, r2) := H
     have A30 := Aside0.mk A300
     clear A300
     as_aux_lemma =>
      simp only [Option.some.injEq, Prod.mk.injEq] at H
      obtain ⟨rfl, rfl⟩ := H
      have hcz31_0 := cz_ BK243 0 (.int .i64 a1_0)
      have hcz31_1 := cz_ BK243 1 (.int .i64 a1_1)
      have hcz31_2 := cz_ BK243 2 (.int .i64 a1_2)
      have hcz31_3 := cz_ BK243 3 (.int .i64 a1_3)
      have hfz31_0 := blk_frozen BK243.out 0
      have hfz31_1 := blk_frozen BK243.out 1
      have hfz31_2 := blk_frozen BK243.out 2
      have hfz31_3 := blk_frozen BK243.out 3
      go_wp2_with (first | ((with_reducible refine gate_callee (f := 42) rfl ?_); refine gs_ (some 22) Try.func42 #[.agg #[.int .i64 a1_0, .int .i64 a1_1, .int .i64 a1_2, .int .i64 a1_3]] ?_; (with_reducible refine (impl_Seen_exchanged.calls a1_0 a1_1 a1_2 a1_3 t252 t253 t254 t255 _ A18.out).mono ?_); rintro e w32 ⟨rfl, hb⟩; refine ⟨_, rfl, ?_⟩; replace HO_6 := hr_ HO_6 hb; replace BK243 := bb BK243 hb; replace HB := hs HB hb; (try clear hb); (try clear hb2); (try clear hk); (try clear hi)) | ((with_reducible refine gate_callee (f := 51) rfl ?_); refine gs_ (some 23) Try.func51 #[.int .i64 a0, .agg #[.int .i64 t252, .int .i64 t253, .int .i64 t254, .int .i64 t255]] ?_; (with_reducible refine (impl_isTrue.calls kj5 a0 t252 t253 t254 t255 false _ A19.out).mono ?_); rintro e w33 ⟨rfl, hb⟩; refine ⟨_, rfl, ?_⟩; replace HO_6 := hr_ HO_6 hb; replace BK243 := bb BK243 hb; replace HB := hs HB hb; (try clear hb); (try clear hb2); (try clear hk); (try clear hi); obtain ⟨Ao34, co34, eo34⟩ := Kd.R_slice HO_6.out; subst eo34) | ((with_reducible refine gate_callee (f := 52) rfl ?_); refine gs_ (some 30) Try.func52 #[.slice Ao34 x6_5.length co34] ?_; (with_reducible refine (impl_sorted.calls kj5 _ _ x6_5 t263 _ ?side1 ?side2 A30.out).mono ?_); (case side1 => repeat (first | exact (Kd.R_reads' HO_6.out).2.2 | (with_reducible refine Kd.C_alloc ?_ _) | (with_reducible refine Kd.C_drewN ?_ _) | (with_reducible refine Kd.C_drew ?_))); (case side2 => exact (Kd.R_reads' HO_6.out).2.1); rintro e w35 ⟨v264, rfl, ho0, hb⟩; refine ⟨_, rfl, ?_⟩; have HO265 := Aside0.mk (Kd.R_lower (Kd.R_new' ho0 (Kd.R_lt (by (with_reducible repeat (first | apply Kd.R_alloc | apply Kd.R_drewN | apply Kd.R_drew)); exact HO_6.out))) (bs_ HB)); replace HO_6 := Aside0.mk (Kd.R_elder' (by (with_reducible repeat (first | apply Kd.R_alloc | apply Kd.R_drewN | apply Kd.R_drew)); exact HO_6.out) (Kd.R_base ho0) hb); replace BK243 := bb BK243 hb; replace HB := hs HB hb; (try clear hb); (try clear hb2); (try clear hk); (try clear hi); (try clear ho0)))
      go_ret2
      exact ⟨_, by first | rfl | (simp [errW_none, errW_some] <;> rfl) | (simp [*, errW_none, errW_some] <;> rfl), by (with_reducible repeat (first | apply Kd.R_alloc | apply Kd.R_drewN | apply Kd.R_drew)); exact Kd.R_mono HO265.out (fun _ hk => trivial), (ho_ HB)⟩
 ·
  replace c4 := Bool.eq_false_iff.mpr c4
  subst c4
  have H1 : (some (([] : List (S23)), false)) = some (r1, r2) := by rw [if_neg (show ¬ (false = true) by decide)] at H; exact H
  clear H
  have H := H1
  clear H1
  as_aux_lemma =>
   simp only [Option.some.injEq, Prod.mk.injEq] at H
   obtain ⟨rfl, rfl⟩ := H
   go_enter Try.func12, Try.ntmps12
   go_wp2_with (first | ((with_reducible refine gate_dst (N := 3) rfl ?_); refine be_ (N := 3) (cs := #[.int .i64 a1_0, .int .i64 a1_1, .int .i64 a1_2, .int .i64 a1_3]) (t := 25) ?_; intro gb243 hg w36 hbox hb; have BK243 := Aside0.mk (hbox); have GW243 := ge_ HB hg; have GE243 := ge_ HB hg; replace HB := hs HB hb; clear hb hbox hg; have hcz37_0 := cz_ BK243 0 (.int .i64 a1_0); have hcz37_1 := cz_ BK243 1 (.int .i64 a1_1); have hcz37_2 := cz_ BK243 2 (.int .i64 a1_2); have hcz37_3 := cz_ BK243 3 (.int .i64 a1_3); have hfz37_0 := blk_frozen BK243.out 0; have hfz37_1 := blk_frozen BK243.out 1; have hfz37_2 := blk_frozen BK243.out 2; have hfz37_3 := blk_frozen BK243.out 3) | ((with_reducible refine gate_callee (f := 50) rfl ?_); refine gs_ (some 9) Try.func50 #[.int .i64 a0, .agg #[.int .i64 a1_0, .int .i64 a1_1, .int .i64 a1_2, .int .i64 a1_3]] ?_; (with_reducible refine (impl_isSeenOf.calls k a0 a1_0 a1_1 a1_2 a1_3 false _ A3.out).mono ?_); rintro e w38 ⟨rfl, hb⟩; refine ⟨_, rfl, ?_⟩; replace BK243 := bb BK243 hb; replace HB := hs HB hb; (try clear hb); (try clear hb2); (try clear hk); (try clear hi)))
   go_ret2
   exact ⟨_, by first | rfl | (simp [errW_none, errW_some] <;> rfl) | (simp [*, errW_none, errW_some] <;> rfl), by first | exact Kd.R_nil _ _ _ _ _ | exact Kd.N_nil _ _ _ _ _ | exact Kd.V_nil _ _ _ _ _ | exact Kd.Q_nil _ _ _ _ _ | exact Kd.S_nil _ _ _ _ _, (ho_ HB)⟩

/-! ### laws_wHas: function 14 -/
def laws_wHas.l0 : Nat → List (S23) → Int → Int → Int → Int → Option (Bool)
 | 0, _, _, _, _, _ => none
 | k + 1, x7, x8, x9, x267000, x267001 => if x9 < x8 then (if 0 ≤ x9 then (if x9 < (x7.length : Int) then (if (((rd_T23 x7 x9).f0) == x267000 && (((rd_T23 x7 x9).f1) == x267001)) = true then (some true) else (laws_wHas.l0 k x7 x8 (wrap64 (x9 + 1)) x267000 x267001)) else (none)) else (none)) else (some false)
def laws_wHas.f (k : Nat) (l0 : List (S23)) (a1_0 : Int) (a1_1 : Int) : Option (Bool) := laws_wHas.l0 k l0 (l0.length : Int) 0 a1_0 a1_1
theorem laws_wHas.mono_l : ∀ k, (∀ y0 y1 y2 y3 y4, LeO (laws_wHas.l0 k y0 y1 y2 y3 y4) (laws_wHas.l0 (k + 1) y0 y1 y2 y3 y4))
 | 0 => fun _ _ _ _ _ r h => by simp [laws_wHas.l0] at h
 | k + 1 => by
  have ih0 := laws_wHas.mono_l k
  ·
   intro y0 y1 y2 y3 y4
   unfold laws_wHas.l0
   repeat' first
   | (with_reducible exact ih0 _ _ _ _ _)
   | (with_reducible exact LeO.refl _)
   | (with_reducible exact LeO.none _)
   | (with_reducible refine LeO.ite ?_ ?_)
   | (with_reducible refine LeO.bind ?_ (fun _ => ?_))
   | exact ih0 _ _ _ _ _
   | exact LeO.none _
   | refine LeO.ite ?_ ?_
   | refine LeO.bind ?_ (fun _ => ?_)
theorem laws_wHas.mono : ∀ a0 a1 a2 k, LeO (laws_wHas.f k a0 a1 a2) (laws_wHas.f (k + 1) a0 a1 a2) := by
 intro a0 a1 a2 k
 have ih0 := laws_wHas.mono_l k
 unfold laws_wHas.f
 repeat' first
   | (with_reducible exact ih0 _ _ _ _ _)
   | (with_reducible exact LeO.refl _)
   | (with_reducible exact LeO.none _)
   | (with_reducible refine LeO.ite ?_ ?_)
   | (with_reducible refine LeO.bind ?_ (fun _ => ?_))
   | exact ih0 _ _ _ _ _
   | exact LeO.none _
   | refine LeO.ite ?_ ?_
   | refine LeO.bind ?_ (fun _ => ?_)
set_option maxHeartbeats 8000000 in
set_option maxRecDepth 100000 in
theorem laws_wHas.calls (k : Nat) (A0 : Option Addr) (c0 : Nat) (l0 : List (S23)) (a1_0 : Int) (a1_1 : Int) (r : Bool) (w : World) (hr0 : Kd.C k23 w A0 l0.length l0) (hc0 : l0.length ≤ c0) (h : laws_wHas.f k l0 a1_0 a1_1 = some r) :
  Calls Try.prog 14 #[.slice A0 l0.length c0, .agg #[.int .i64 a1_0, .int .i64 a1_1]] w fun e w' => e = .returned (.bool r) ∧ Below w.heap.size w w' := by
 have hu23 := Try.underlying23
 have HR0 := Aside0.mk hr0
 have HC0 := Aside0.mk hc0
 clear hr0 hc0
 have HB := Aside0.mk (Below.refl w.heap.size w)
 have H : (laws_wHas.l0 k l0 (l0.length : Int) 0 a1_0 a1_1) = some r := h
 clear h
 have H' := Aside0.mk H
 clear H
 go_enter Try.func14, Try.ntmps14
 go_wp2_with (first | ((with_reducible refine gate_dst (N := 3) rfl ?_); refine be_ (N := 3) (cs := #[.int .i64 a1_0, .int .i64 a1_1]) (t := 23) ?_; intro gb266 hg w3 hbox hb; have BK266 := Aside0.mk (hbox); have GW266 := ge_ HB hg; have GE266 := ge_ HB hg; replace HB := hs HB hb; clear hb hbox hg))
 go_loopg [9] k (fun kq v9 w' => ∃ (x9_1 : Int), v9 = .int .i64 x9_1 ∧ Aside0 (laws_wHas.l0 kq l0 (l0.length : Int) x9_1 a1_0 a1_1 = some r) ∧ Aside0 (kq ≤ k) ∧ Aside0 (w'.heap[gb266]? = some (.cells #[.int .i64 a1_0, .int .i64 a1_1] 23 (0, 0))) ∧ Aside0 (Below w.heap.size w w'))
 case atStart => exact ⟨(0), (by first | rfl | (simp; done) | (simp [*]; done)), H', ⟨Nat.le_refl _⟩, bk_ BK266, hb_ HB⟩
 case round =>
  clear H'
  obtain ⟨x9_1, rfl, HA, HK1, BK266, HB⟩ := hrel
  cases gk with
  | zero => exact absurd HA.out (by simp [laws_wHas.l0])
  | succ k1 =>
   have H := HA.out
   clear HA
   simp only [laws_wHas.l0] at H
   by_cases c4 : x9_1 < (l0.length : Int)
   ·
    rw [if_pos c4] at H
    have c4b0 : decide (x9_1 < (l0.length : Int)) = true := decide_eq_true c4
    clear c4
    by_cases c5 : 0 ≤ x9_1
    ·
     rw [if_pos c5] at H
     have c5b0 : decide (0 ≤ x9_1) = true := decide_eq_true c5
     clear c5
     by_cases c6 : x9_1 < (l0.length : Int)
     ·
      rw [if_pos c6] at H
      have c6b0 : decide (x9_1 < (l0.length : Int)) = true := decide_eq_true c6
      clear c6
      by_cases c7 : (((rd_T23 l0 x9_1).f0) == a1_0 && (((rd_T23 l0 x9_1).f1) == a1_1)) = true
      ·
       rw [if_pos c7] at H
       have c7b0 : (((rd_T23 l0 x9_1).f0) == a1_0 && (((rd_T23 l0 x9_1).f1) == a1_1)) = true := c7
       (try (have c7b1 : decide (((rd_T23 l0 x9_1).f0) = a1_0 && (((rd_T23 l0 x9_1).f1) == a1_1)) = true := by simpa using c7))
       (try (have c7b2 : (((rd_T23 l0 x9_1).f0) == a1_0 && (((rd_T23 l0 x9_1).f1) == a1_1)) = true := by simpa using c7))
       clear c7
       as_aux_lemma =>
        obtain rfl := Option.some.inj H
        have p267 : 0 ≤ (x9_1 : Int) := of_decide_eq_true (by first | (with_reducible assumption) | assumption)
        have q267 : x9_1 < (l0.length : Int) := of_decide_eq_true (by first | (with_reducible assumption) | assumption)
        obtain ⟨ad267, e267, hx267_0, hx267_1⟩ := at_T23 HR0.out x9_1 p267 q267
        cases e267
        replace hx267_0 := (HB.out.cell (World.block_lt_of_cell? w _ hx267_0)).trans hx267_0
        replace hx267_1 := (HB.out.cell (World.block_lt_of_cell? w _ hx267_1)).trans hx267_1
        replace p267 := eq_true p267
        replace q267 := eq_true q267
        go_wp2_with (first | ((with_reducible refine gate_dst (N := 6) rfl ?_); refine be_ (N := 6) (cs := #[.int .i64 0, .int .i64 0]) (t := 23) ?_; intro gb268 hg w8 hbox hb; have BK268 := Aside0.mk (hbox); have GW268 := ge_ HB hg; have GE268 := ge_ HB hg; obtain ⟨NB266_268, NB268_266⟩ := nq_ BK266 hg; replace BK266 := bb BK266 hb; replace HB := hs HB hb; clear hb hbox hg; obtain ⟨hnb9, hnc9⟩ := nn_ NB268_266; have hcz10_0 := cz_ BK268 0 (.int .i64 0); have hcz10_1 := cz_ BK268 1 (.int .i64 0); have hfz10_0 := blk_frozen BK268.out 0; have hfz10_1 := blk_frozen BK268.out 1; have hcz11_0 := cz_ BK266 0 (.int .i64 a1_0); have hcz11_1 := cz_ BK266 1 (.int .i64 a1_1); have hfz11_0 := blk_frozen BK266.out 0; have hfz11_1 := blk_frozen BK266.out 1))
        go_ret
        exact ⟨by first | rfl | (simp [errW_none, errW_some] <;> rfl) | (simp [*, errW_none, errW_some] <;> rfl), (ho_ HB)⟩
      ·
       rw [if_neg c7] at H
       have c7b0 : (((rd_T23 l0 x9_1).f0) == a1_0 && (((rd_T23 l0 x9_1).f1) == a1_1)) = false := by simpa using c7
       (try (have c7b1 : decide (((rd_T23 l0 x9_1).f0) = a1_0 && (((rd_T23 l0 x9_1).f1) == a1_1)) = false := by simpa using c7))
       (try (have c7b2 : (((rd_T23 l0 x9_1).f0) == a1_0 && (((rd_T23 l0 x9_1).f1) == a1_1)) = false := by simpa using c7))
       (try (have c7b3 : ¬ (((rd_T23 l0 x9_1).f0) = a1_0 && (((rd_T23 l0 x9_1).f1) == a1_1)) := by simpa using c7))
       clear c7
       as_aux_lemma =>
        have H' := Aside0.mk H
        clear H
        have p267 : 0 ≤ (x9_1 : Int) := of_decide_eq_true (by first | (with_reducible assumption) | assumption)
        have q267 : x9_1 < (l0.length : Int) := of_decide_eq_true (by first | (with_reducible assumption) | assumption)
        obtain ⟨ad267, e267, hx267_0, hx267_1⟩ := at_T23 HR0.out x9_1 p267 q267
        cases e267
        replace hx267_0 := (HB.out.cell (World.block_lt_of_cell? w _ hx267_0)).trans hx267_0
        replace hx267_1 := (HB.out.cell (World.block_lt_of_cell? w _ hx267_1)).trans hx267_1
        replace p267 := eq_true p267
        replace q267 := eq_true q267
        go_wp2_with (first | ((with_reducible refine gate_dst (N := 6) rfl ?_); refine be_ (N := 6) (cs := #[.int .i64 0, .int .i64 0]) (t := 23) ?_; intro gb268 hg w12 hbox hb; have BK268 := Aside0.mk (hbox); have GW268 := ge_ HB hg; have GE268 := ge_ HB hg; obtain ⟨NB266_268, NB268_266⟩ := nq_ BK266 hg; replace BK266 := bb BK266 hb; replace HB := hs HB hb; clear hb hbox hg; obtain ⟨hnb13, hnc13⟩ := nn_ NB268_266; have hcz14_0 := cz_ BK268 0 (.int .i64 0); have hcz14_1 := cz_ BK268 1 (.int .i64 0); have hfz14_0 := blk_frozen BK268.out 0; have hfz14_1 := blk_frozen BK268.out 1; have hcz15_0 := cz_ BK266 0 (.int .i64 a1_0); have hcz15_1 := cz_ BK266 1 (.int .i64 a1_1); have hfz15_0 := blk_frozen BK266.out 0; have hfz15_1 := blk_frozen BK266.out 1))
        go_roundg k1
        case measure => have := HK1.out; omega
        case rel => exact ⟨(wrap64 (x9_1 + 1)), (by first | rfl | (simp; done) | (simp [*]; done)), H', ⟨by have := HK1.out; omega⟩, bk_ BK266, hb_ HB⟩
     ·
      rw [if_neg c6] at H
      exact absurd H (by simp)
    ·
     rw [if_neg c5] at H
     exact absurd H (by simp)
   ·
    rw [if_neg c4] at H
    have c4b0 : decide (x9_1 < (l0.length : Int)) = false := decide_eq_false c4
    clear c4
    as_aux_lemma =>
     obtain rfl := Option.some.inj H
     go_wp2
     go_ret
     exact ⟨by first | rfl | (simp [errW_none, errW_some] <;> rfl) | (simp [*, errW_none, errW_some] <;> rfl), (ho_ HB)⟩

/-! ### laws_wRises: function 15 -/
def laws_wRises.l0 : Nat → List (S23) → Int → Option (Bool)
 | 0, _, _ => none
 | k + 1, x0, x3 => if x3 < (x0.length : Int) then (if 0 ≤ (wrap64 (x3 - 1)) then (if (wrap64 (x3 - 1)) < (x0.length : Int) then (if 0 ≤ x3 then (if (wrap64 (((rd_T23 x0 (wrap64 (x3 - 1))).f0) * ((rd_T23 x0 x3).f1))) ≥ (wrap64 (((rd_T23 x0 x3).f0) * ((rd_T23 x0 (wrap64 (x3 - 1))).f1))) then (some false) else (laws_wRises.l0 k x0 (wrap64 (x3 + 1)))) else (none)) else (none)) else (none)) else (some true)
def laws_wRises.f (k : Nat) (l0 : List (S23)) : Option (Bool) := laws_wRises.l0 k l0 1
theorem laws_wRises.mono_l : ∀ k, (∀ y0 y1, LeO (laws_wRises.l0 k y0 y1) (laws_wRises.l0 (k + 1) y0 y1))
 | 0 => fun _ _ r h => by simp [laws_wRises.l0] at h
 | k + 1 => by
  have ih0 := laws_wRises.mono_l k
  ·
   intro y0 y1
   unfold laws_wRises.l0
   repeat' first
   | (with_reducible exact ih0 _ _)
   | (with_reducible exact LeO.refl _)
   | (with_reducible exact LeO.none _)
   | (with_reducible refine LeO.ite ?_ ?_)
   | (with_reducible refine LeO.bind ?_ (fun _ => ?_))
   | exact ih0 _ _
   | exact LeO.none _
   | refine LeO.ite ?_ ?_
   | refine LeO.bind ?_ (fun _ => ?_)
theorem laws_wRises.mono : ∀ a0 k, LeO (laws_wRises.f k a0) (laws_wRises.f (k + 1) a0) := by
 intro a0 k
 have ih0 := laws_wRises.mono_l k
 unfold laws_wRises.f
 repeat' first
   | (with_reducible exact ih0 _ _)
   | (with_reducible exact LeO.refl _)
   | (with_reducible exact LeO.none _)
   | (with_reducible refine LeO.ite ?_ ?_)
   | (with_reducible refine LeO.bind ?_ (fun _ => ?_))
   | exact ih0 _ _
   | exact LeO.none _
   | refine LeO.ite ?_ ?_
   | refine LeO.bind ?_ (fun _ => ?_)
set_option maxHeartbeats 8000000 in
set_option maxRecDepth 100000 in
theorem laws_wRises.calls (k : Nat) (A0 : Option Addr) (c0 : Nat) (l0 : List (S23)) (r : Bool) (w : World) (hr0 : Kd.C k23 w A0 l0.length l0) (hc0 : l0.length ≤ c0) (h : laws_wRises.f k l0 = some r) :
  Calls Try.prog 15 #[.slice A0 l0.length c0] w fun e w' => e = .returned (.bool r) ∧ Drawn0 w w' := by
 have HR0 := Aside0.mk hr0
 have HC0 := Aside0.mk hc0
 clear hr0 hc0
 have H : (laws_wRises.l0 k l0 1) = some r := h
 clear h
 have H' := Aside0.mk H
 clear H
 go_enter Try.func15, Try.ntmps15
 go_wp2
 repeat (go_quiet (fail); try go_wp2)
 go_loopg [3] k (fun kq v3 w' => ∃ (x3_1 : Int), v3 = .int .i64 x3_1 ∧ Aside0 (laws_wRises.l0 kq l0 x3_1 = some r) ∧ Aside0 (kq ≤ k) ∧ Drawn0 w w')
 case atStart => exact ⟨(1), (by first | rfl | (simp; done) | (simp [*]; done)), H', ⟨Nat.le_refl _⟩, by repeat (first | exact Drawn0.refl _ | apply Drawn0.step)⟩
 case round =>
  clear H'
  obtain ⟨x3_1, rfl, HA, HK1, ⟨m1, rfl⟩⟩ := hrel
  cases gk with
  | zero => exact absurd HA.out (by simp [laws_wRises.l0])
  | succ k1 =>
   have H := HA.out
   clear HA
   simp only [laws_wRises.l0] at H
   by_cases c2 : x3_1 < (l0.length : Int)
   ·
    rw [if_pos c2] at H
    have c2b0 : decide (x3_1 < (l0.length : Int)) = true := decide_eq_true c2
    clear c2
    obtain ⟨ji3, hji3⟩ : ∃ j_ : Int, (wrap64 (x3_1 - 1)) = j_ := ⟨_, rfl⟩
    replace H : (if 0 ≤ (ji3) then (if (ji3) < (l0.length : Int) then (if 0 ≤ x3_1 then (if (wrap64 (((rd_T23 l0 (ji3)).f0) * ((rd_T23 l0 x3_1).f1))) ≥ (wrap64 (((rd_T23 l0 x3_1).f0) * ((rd_T23 l0 (ji3)).f1))) then (some false) else (laws_wRises.l0 k1 l0 (wrap64 (x3_1 + 1)))) else (none)) else (none)) else (none)) = some r := by first | (rw [hji3] at H; exact H) | (simp only [hji3] at H ⊢; exact H)
    have hji3w : (IntKind.i64.wrap (x3_1 - 1)) = ji3 := (i64_w _).trans hji3
    by_cases c4 : 0 ≤ (ji3)
    ·
     rw [if_pos c4] at H
     have c4b0 : decide (0 ≤ (ji3)) = true := decide_eq_true c4
     clear c4
     by_cases c5 : (ji3) < (l0.length : Int)
     ·
      rw [if_pos c5] at H
      have c5b0 : decide ((ji3) < (l0.length : Int)) = true := decide_eq_true c5
      clear c5
      by_cases c6 : 0 ≤ x3_1
      ·
       rw [if_pos c6] at H
       have c6b0 : decide (0 ≤ x3_1) = true := decide_eq_true c6
       clear c6
       by_cases c7 : (wrap64 (((rd_T23 l0 (ji3)).f0) * ((rd_T23 l0 x3_1).f1))) ≥ (wrap64 (((rd_T23 l0 x3_1).f0) * ((rd_T23 l0 (ji3)).f1)))
       ·
        rw [if_pos c7] at H
        have c7b0 : decide ((wrap64 (((rd_T23 l0 x3_1).f0) * ((rd_T23 l0 (ji3)).f1))) ≤ (wrap64 (((rd_T23 l0 (ji3)).f0) * ((rd_T23 l0 x3_1).f1)))) = true := decide_eq_true c7
        clear c7
        as_aux_lemma =>
         obtain rfl := Option.some.inj H
         have p269 : 0 ≤ ((ji3) : Int) := of_decide_eq_true (by first | (with_reducible assumption) | assumption)
         have q269 : (ji3) < (l0.length : Int) := of_decide_eq_true (by first | (with_reducible assumption) | assumption)
         obtain ⟨ad269, e269, hx269_0, hx269_1⟩ := at_T23 HR0.out (ji3) p269 q269
         cases e269
         replace p269 := eq_true p269
         replace q269 := eq_true q269
         have p270 : 0 ≤ (x3_1 : Int) := of_decide_eq_true (by first | (with_reducible assumption) | assumption)
         have q270 : x3_1 < (l0.length : Int) := of_decide_eq_true (by first | (with_reducible assumption) | assumption)
         obtain ⟨ad270, e270, hx270_0, hx270_1⟩ := at_T23 HR0.out x3_1 p270 q270
         obtain rfl : ad269 = ad270 := (by injection e270)
         replace p270 := eq_true p270
         replace q270 := eq_true q270
         have p271 : 0 ≤ (x3_1 : Int) := of_decide_eq_true (by first | (with_reducible assumption) | assumption)
         have q271 : x3_1 < (l0.length : Int) := of_decide_eq_true (by first | (with_reducible assumption) | assumption)
         obtain ⟨ad271, e271, hx271_0, hx271_1⟩ := at_T23 HR0.out x3_1 p271 q271
         obtain rfl : ad269 = ad271 := (by injection e271)
         replace p271 := eq_true p271
         replace q271 := eq_true q271
         have p272 : 0 ≤ ((ji3) : Int) := of_decide_eq_true (by first | (with_reducible assumption) | assumption)
         have q272 : (ji3) < (l0.length : Int) := of_decide_eq_true (by first | (with_reducible assumption) | assumption)
         obtain ⟨ad272, e272, hx272_0, hx272_1⟩ := at_T23 HR0.out (ji3) p272 q272
         obtain rfl : ad269 = ad272 := (by injection e272)
         replace p272 := eq_true p272
         replace q272 := eq_true q272
         go_wp2
         repeat (go_quiet (fail); try go_wp2)
         go_ret
         exact ⟨by first | rfl | (simp; done) | (simp only [← hji3] <;> (first | rfl | simp)) | (simp [*]; done), by repeat (first | exact Drawn0.refl _ | apply Drawn0.step)⟩
       ·
        rw [if_neg c7] at H
        have c7b0 : decide ((wrap64 (((rd_T23 l0 x3_1).f0) * ((rd_T23 l0 (ji3)).f1))) ≤ (wrap64 (((rd_T23 l0 (ji3)).f0) * ((rd_T23 l0 x3_1).f1)))) = false := decide_eq_false c7
        clear c7
        as_aux_lemma =>
         have H' := Aside0.mk H
         clear H
         have p269 : 0 ≤ ((ji3) : Int) := of_decide_eq_true (by first | (with_reducible assumption) | assumption)
         have q269 : (ji3) < (l0.length : Int) := of_decide_eq_true (by first | (with_reducible assumption) | assumption)
         obtain ⟨ad269, e269, hx269_0, hx269_1⟩ := at_T23 HR0.out (ji3) p269 q269
         cases e269
         replace p269 := eq_true p269
         replace q269 := eq_true q269
         have p270 : 0 ≤ (x3_1 : Int) := of_decide_eq_true (by first | (with_reducible assumption) | assumption)
         have q270 : x3_1 < (l0.length : Int) := of_decide_eq_true (by first | (with_reducible assumption) | assumption)
         obtain ⟨ad270, e270, hx270_0, hx270_1⟩ := at_T23 HR0.out x3_1 p270 q270
         obtain rfl : ad269 = ad270 := (by injection e270)
         replace p270 := eq_true p270
         replace q270 := eq_true q270
         have p271 : 0 ≤ (x3_1 : Int) := of_decide_eq_true (by first | (with_reducible assumption) | assumption)
         have q271 : x3_1 < (l0.length : Int) := of_decide_eq_true (by first | (with_reducible assumption) | assumption)
         obtain ⟨ad271, e271, hx271_0, hx271_1⟩ := at_T23 HR0.out x3_1 p271 q271
         obtain rfl : ad269 = ad271 := (by injection e271)
         replace p271 := eq_true p271
         replace q271 := eq_true q271
         have p272 : 0 ≤ ((ji3) : Int) := of_decide_eq_true (by first | (with_reducible assumption) | assumption)
         have q272 : (ji3) < (l0.length : Int) := of_decide_eq_true (by first | (with_reducible assumption) | assumption)
         obtain ⟨ad272, e272, hx272_0, hx272_1⟩ := at_T23 HR0.out (ji3) p272 q272
         obtain rfl : ad269 = ad272 := (by injection e272)
         replace p272 := eq_true p272
         replace q272 := eq_true q272
         go_wp2
         repeat (go_quiet (fail); try go_wp2)
         go_roundg k1
         case measure => have := HK1.out; omega
         case rel => exact ⟨(wrap64 (x3_1 + 1)), (by first | rfl | (simp; done) | (simp [*]; done)), H', ⟨by have := HK1.out; omega⟩, by repeat (first | exact Drawn0.refl _ | apply Drawn0.step)⟩
      ·
       rw [if_neg c6] at H
       exact absurd H (by simp)
     ·
      rw [if_neg c5] at H
      exact absurd H (by simp)
    ·
     rw [if_neg c4] at H
     exact absurd H (by simp)
   ·
    rw [if_neg c2] at H
    have c2b0 : decide (x3_1 < (l0.length : Int)) = false := decide_eq_false c2
    clear c2
    as_aux_lemma =>
     obtain rfl := Option.some.inj H
     go_wp2
     repeat (go_quiet (fail); try go_wp2)
     go_ret
     exact ⟨by first | rfl | (simp; done) | (simp [*]; done), by repeat (first | exact Drawn0.refl _ | apply Drawn0.step)⟩

/-! ### impl_ifTurns: function 55 -/
def impl_ifTurns.f (k : Nat) (l0 : List (S23)) (a1 : Bool) : Option ((List (S23)) × Bool) := if a1 = true then ((impl_areTurns.f k l0).bind fun t273 => (if t273 = true then (some (l0, true)) else (some (([] : List (S23)), false)))) else (some (([] : List (S23)), false))
theorem impl_ifTurns.mono : ∀ a0 a1 k, LeO (impl_ifTurns.f k a0 a1) (impl_ifTurns.f (k + 1) a0 a1) := by
 intro a0 a1 k
 unfold impl_ifTurns.f
 repeat' first
   | (with_reducible exact impl_areTurns.mono _ _)
   | (with_reducible exact LeO.refl _)
   | (with_reducible exact LeO.none _)
   | (with_reducible refine LeO.ite ?_ ?_)
   | (with_reducible refine LeO.bind ?_ (fun _ => ?_))
   | exact impl_areTurns.mono _ _
   | exact LeO.none _
   | refine LeO.ite ?_ ?_
   | refine LeO.bind ?_ (fun _ => ?_)
set_option maxHeartbeats 8000000 in
set_option maxRecDepth 100000 in
theorem impl_ifTurns.calls (k : Nat) (P0_ : Nat → Prop) (u9000_ : Value) (l0 : List (S23)) (a1 : Bool) (r1 : List (S23)) (r2 : Bool) (w0 w : World) (hB : Below w0.heap.size w0 w) (ho0 : Kd.R k23 23 w w0.heap.size P0_ u9000_ l0) (h : impl_ifTurns.f k l0 a1 = some (r1, r2)) :
  Calls Try.prog 55 #[u9000_, .bool a1] w fun e w' => ∃ v0_ : Value, e = .returned (.tuple #[v0_, .bool r2]) ∧ Kd.R k23 23 w' w0.heap.size (fun k_ => (P0_ k_ ∨ w.heap.size ≤ k_)) v0_ r1 ∧ Below w0.heap.size w0 w' ∧ Kept w w' (fun k_ => P0_ k_) := by
 have HO0 := Aside0.mk (show Kd.R k23 23 w w0.heap.size (fun k_ => (P0_ k_ ∨ w.heap.size ≤ k_)) u9000_ l0 from Kd.R_mono ho0 (fun k_ hk => (.inl hk)))
 have HK := Aside0.mk (Kept.refl w (fun k_ => P0_ k_))
 have HW0 := Aside0.mk hB.size
 have HB := Aside0.mk hB
 clear hB
 have H : (if a1 = true then ((impl_areTurns.f k l0).bind fun t273 => (if t273 = true then (some (l0, true)) else (some (([] : List (S23)), false)))) else (some (([] : List (S23)), false))) = some (r1, r2) := h
 clear h
 by_cases c3 : a1 = true
 ·
  subst c3
  have H1 : ((impl_areTurns.f k l0).bind fun t273 => (if t273 = true then (some (l0, true)) else (some (([] : List (S23)), false)))) = some (r1, r2) := by rw [if_pos rfl] at H; exact H
  clear H
  have H := H1
  clear H1
  replace H := Option.bind_eq_some_iff.mp H
  obtain ⟨t273, A40, H⟩ := H
  replace H : (if t273 = true then (some (l0, true)) else (some (([] : List (S23)), false))) = some (r1, r2) := H
  have A4 := Aside0.mk A40
  clear A40
  by_cases c5 : t273 = true
  ·
   subst c5
   have H1 : (some (l0, true)) = some (r1, r2) := by rw [if_pos rfl] at H; exact H
   clear H
   have H := H1
   clear H1
   as_aux_lemma =>
    simp only [Option.some.injEq, Prod.mk.injEq] at H
    obtain ⟨rfl, rfl⟩ := H
    obtain ⟨Ao6, co6, eo6⟩ := Kd.R_slice HO0.out
    subst eo6
    go_enter Try.func55, Try.ntmps55
    go_wp2_with (first | (go_at_call 53; refine calls_of_args (args' := #[.slice Ao6 l0.length co6]) (by first | rfl) ?_; (with_reducible refine (impl_areTurns.calls k _ _ l0 true _ ?side1 ?side2 A4.out).mono ?_); (case side1 => repeat (first | exact (Kd.R_reads' HO0.out).2.2 | (with_reducible refine Kd.C_alloc ?_ _) | (with_reducible refine Kd.C_drewN ?_ _) | (with_reducible refine Kd.C_drew ?_))); (case side2 => exact (Kd.R_reads' HO0.out).2.1); rintro e w7 ⟨rfl, hb⟩; replace HO0 := hr_ HO0 hb; replace HK := Aside0.mk (Kept.below (S := (fun k_ => P0_ k_)) (by repeat (first | (with_reducible first | exact HK.out | apply Kept.alloc | apply Kept.drewN | apply Kept.drew) | exact HK.out)) hb); replace HB := hs HB hb; (try clear hb); (try clear hb2); (try clear hk); (try clear hi)))
    go_ret2
    exact ⟨_, by first | rfl | (simp [errW_none, errW_some] <;> rfl) | (simp [*, errW_none, errW_some] <;> rfl), by (with_reducible repeat (first | apply Kd.R_alloc | apply Kd.R_drewN | apply Kd.R_drew)); exact HO0.out, (ho_ HB), by repeat (first | (with_reducible first | exact HK.out | apply Kept.alloc | apply Kept.drewN | apply Kept.drew) | exact HK.out)⟩
  ·
   replace c5 := Bool.eq_false_iff.mpr c5
   subst c5
   have H1 : (some (([] : List (S23)), false)) = some (r1, r2) := by rw [if_neg (show ¬ (false = true) by decide)] at H; exact H
   clear H
   have H := H1
   clear H1
   as_aux_lemma =>
    simp only [Option.some.injEq, Prod.mk.injEq] at H
    obtain ⟨rfl, rfl⟩ := H
    obtain ⟨Ao8, co8, eo8⟩ := Kd.R_slice HO0.out
    subst eo8
    go_enter Try.func55, Try.ntmps55
    go_wp2_with (first | (go_at_call 53; refine calls_of_args (args' := #[.slice Ao8 l0.length co8]) (by first | rfl) ?_; (with_reducible refine (impl_areTurns.calls k _ _ l0 false _ ?side1 ?side2 A4.out).mono ?_); (case side1 => repeat (first | exact (Kd.R_reads' HO0.out).2.2 | (with_reducible refine Kd.C_alloc ?_ _) | (with_reducible refine Kd.C_drewN ?_ _) | (with_reducible refine Kd.C_drew ?_))); (case side2 => exact (Kd.R_reads' HO0.out).2.1); rintro e w9 ⟨rfl, hb⟩; replace HO0 := hr_ HO0 hb; replace HK := Aside0.mk (Kept.below (S := (fun k_ => P0_ k_)) (by repeat (first | (with_reducible first | exact HK.out | apply Kept.alloc | apply Kept.drewN | apply Kept.drew) | exact HK.out)) hb); replace HB := hs HB hb; (try clear hb); (try clear hb2); (try clear hk); (try clear hi)))
    go_ret2
    exact ⟨_, by first | rfl | (simp [errW_none, errW_some] <;> rfl) | (simp [*, errW_none, errW_some] <;> rfl), by first | exact Kd.R_nil _ _ _ _ _ | exact Kd.N_nil _ _ _ _ _ | exact Kd.V_nil _ _ _ _ _ | exact Kd.Q_nil _ _ _ _ _ | exact Kd.S_nil _ _ _ _ _, (ho_ HB), by repeat (first | (with_reducible first | exact HK.out | apply Kept.alloc | apply Kept.drewN | apply Kept.drew) | exact HK.out)⟩
 ·
  replace c3 := Bool.eq_false_iff.mpr c3
  subst c3
  have H1 : (some (([] : List (S23)), false)) = some (r1, r2) := by rw [if_neg (show ¬ (false = true) by decide)] at H; exact H
  clear H
  have H := H1
  clear H1
  as_aux_lemma =>
   simp only [Option.some.injEq, Prod.mk.injEq] at H
   obtain ⟨rfl, rfl⟩ := H
   go_enter Try.func55, Try.ntmps55
   go_wp2
   go_ret2
   exact ⟨_, by first | rfl | (simp [errW_none, errW_some] <;> rfl) | (simp [*, errW_none, errW_some] <;> rfl), by first | exact Kd.R_nil _ _ _ _ _ | exact Kd.N_nil _ _ _ _ _ | exact Kd.V_nil _ _ _ _ _ | exact Kd.Q_nil _ _ _ _ _ | exact Kd.S_nil _ _ _ _ _, (ho_ HB), by repeat (first | (with_reducible first | exact HK.out | apply Kept.alloc | apply Kept.drewN | apply Kept.drew) | exact HK.out)⟩

end Go.Proofs.Ytkfcaldjepmffaa.GFnSeenTrueOfAll
