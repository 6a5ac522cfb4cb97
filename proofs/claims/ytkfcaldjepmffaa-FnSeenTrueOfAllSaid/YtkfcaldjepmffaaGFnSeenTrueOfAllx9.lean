-- Written by a program of this session (a copy of the kit's print program that takes contracts of one's own); Lean checks it.
import Derived.Test.YtkfcaldjepmffaaGFnSeenTrueOfAllx0
import Derived.Test.YtkfcaldjepmffaaGFnSeenTrueOfAllx3
import Derived.Test.YtkfcaldjepmffaaGFnSeenTrueOfAllx4
import Derived.Test.YtkfcaldjepmffaaGFnSeenTrueOfAllx5
import Derived.Test.YtkfcaldjepmffaaGFnSeenTrueOfAllx8
namespace Go.Proofs.Ytkfcaldjepmffaa.GFnSeenTrueOfAll
open Go.RowKit Go.Proofs.YtkfcaldjepmffaaW.PrintWords Go.Proofs.YtkfcaldjepmffaaW.PrintLast Go.Proofs.YtkfcaldjepmffaaW.PrintMore
attribute [local go_sem] max2_int min2_int max_two min_two max_three min_three max_four min_four   -- for this text's walks alone
set_option linter.unusedVariables false
set_option linter.unusedSimpArgs false

/-! ### impl_roots: function 56 -/
def impl_roots.l0 : Nat → Int → List (S23) → Int → Int → Int → Int → Option ((List (S23)) × Bool)
 | 0, _, _, _, _, _, _ => none
 | k + 1, x1, x6, x9, x10, x275000, x275001 => if x10 < x9 then ((impl_part.f k (wrap64 (x275000 + (wrap64 (x10 * x275001)))) (wrap64 (x275001 * x1))).bind fun bt278 => (if x6.length < 8796093022208 then (impl_roots.l0 k x1 (x6 ++ [(⟨bt278.1, bt278.2⟩ : S23)]) x9 (wrap64 (x10 + 1)) x275000 x275001) else (none))) else ((impl_areTurns.f k x6).bind fun t283 => (some (x6, t283)))
def impl_roots.f (k : Nat) (a0_0 : Int) (a0_1 : Int) (a1 : Int) : Option ((List (S23)) × Bool) := impl_roots.l0 k a1 (([] : List (S23))) a1 0 a0_0 a0_1
theorem impl_roots.mono_l : ∀ k, (∀ y0 y1 y2 y3 y4 y5, LeO (impl_roots.l0 k y0 y1 y2 y3 y4 y5) (impl_roots.l0 (k + 1) y0 y1 y2 y3 y4 y5))
 | 0 => fun _ _ _ _ _ _ r h => by simp [impl_roots.l0] at h
 | k + 1 => by
  have ih0 := impl_roots.mono_l k
  ·
   intro y0 y1 y2 y3 y4 y5
   unfold impl_roots.l0
   repeat' first
   | (with_reducible exact ih0 _ _ _ _ _ _)
   | (with_reducible exact impl_areTurns.mono _ _)
   | (with_reducible exact impl_part.mono _ _ _)
   | (with_reducible exact LeO.refl _)
   | (with_reducible exact LeO.none _)
   | (with_reducible refine LeO.ite ?_ ?_)
   | (with_reducible refine LeO.bind ?_ (fun _ => ?_))
   | exact ih0 _ _ _ _ _ _
   | exact impl_areTurns.mono _ _
   | exact impl_part.mono _ _ _
   | exact LeO.none _
   | refine LeO.ite ?_ ?_
   | refine LeO.bind ?_ (fun _ => ?_)
theorem impl_roots.mono : ∀ a0 a1 a2 k, LeO (impl_roots.f k a0 a1 a2) (impl_roots.f (k + 1) a0 a1 a2) := by
 intro a0 a1 a2 k
 have ih0 := impl_roots.mono_l k
 unfold impl_roots.f
 repeat' first
   | (with_reducible exact ih0 _ _ _ _ _ _)
   | (with_reducible exact impl_areTurns.mono _ _)
   | (with_reducible exact impl_part.mono _ _ _)
   | (with_reducible exact LeO.refl _)
   | (with_reducible exact LeO.none _)
   | (with_reducible refine LeO.ite ?_ ?_)
   | (with_reducible refine LeO.bind ?_ (fun _ => ?_))
   | exact ih0 _ _ _ _ _ _
   | exact impl_areTurns.mono _ _
   | exact impl_part.mono _ _ _
   | exact LeO.none _
   | refine LeO.ite ?_ ?_
   | refine LeO.bind ?_ (fun _ => ?_)
set_option maxHeartbeats 8000000 in
set_option maxRecDepth 100000 in
theorem impl_roots.calls (k : Nat) (a0_0 : Int) (a0_1 : Int) (a1 : Int) (r1 : List (S23)) (r2 : Bool) (w : World) (h : impl_roots.f k a0_0 a0_1 a1 = some (r1, r2)) :
  Calls Try.prog 56 #[.agg #[.int .i64 a0_0, .int .i64 a0_1], .int .i64 a1] w fun e w' => ∃ v0_ : Value, e = .returned (.tuple #[v0_, .bool r2]) ∧ Kd.R k23 23 w' w.heap.size (fun _ => True) v0_ r1 ∧ Below w.heap.size w w' := by
 have hu23 := Try.underlying23
 have HB := Aside0.mk (Below.refl w.heap.size w)
 have H : (impl_roots.l0 k a1 (([] : List (S23))) a1 0 a0_0 a0_1) = some (r1, r2) := h
 clear h
 obtain ⟨y275, hy275⟩ : ∃ y_ : List (S23), y_ = (([] : List (S23))) := ⟨_, rfl⟩
 replace H : (impl_roots.l0 k a1 y275 a1 0 a0_0 a0_1) = some (r1, r2) := by first | (rw [hy275]; with_reducible exact H) | (have H2_ := (Option.bind_some _ _).symm.trans H; rw [hy275]; with_reducible exact H2_) | (have H2_ := (Option.bind_some _ _).symm.trans H; with_reducible exact H2_) | with_reducible exact H | (rw [hy275]; exact H) | exact H
 have Ny275 := Aside0.mk hy275
 clear hy275
 have H' := Aside0.mk H
 clear H
 go_enter Try.func56, Try.ntmps56
 go_wp2_with (first | ((with_reducible refine gate_dst (N := 2) rfl ?_); refine be_ (N := 2) (cs := #[.int .i64 a0_0, .int .i64 a0_1]) (t := 23) ?_; intro gb274 hg w3 hbox hb; have BK274 := Aside0.mk (hbox); have GW274 := ge_ HB hg; have GE274 := ge_ HB hg; replace HB := hs HB hb; clear hb hbox hg) | ((with_reducible refine gate_dst (N := 8) rfl ?_); refine Kd.R_lit k23 _ 23 ?hg (N := 8) ?hd (xs := ([] : List (S23))) (inner := []) (ok := fun _ => True) (okp := fun _ => True) ?hr ?hp (fun _ hk => hk) trivial (Below.refl _ _) (Nat.le_refl _) (by simp) ?_; (case hd => rfl); (case hg => rfl); (case hr => first | (go_simp; done) | (go_simp; rfl)); (case hp => exact (Reps.none _ _)); intro v276 w4 ho5 hb hg_ hnew_; clear hg_ hnew_; (first | rw [← Ny275.out] at ho5 | (simp only [Int.reduceToNat] at ho5; rw [← Ny275.out] at ho5)); have HO277 := Aside0.mk (Kd.R_lower (Kd.R_newB ho5 (g := gb274) (o := .cells #[.int .i64 a0_0, .int .i64 a0_1] 23 (0, 0)) (by (with_reducible repeat (first | refine blk_drewN ?_ _ | refine blk_drew ?_ | refine blk_alloc ?_ _)); exact BK274.out)) (bs_ HB)); replace BK274 := bb BK274 hb; replace HB := hs HB hb; clear hb ho5))
 go_loopg [6, 10] k (fun kq v6 v10 w' => ∃ (x6_1 : List (S23)) (x10_1 : Int), v10 = .int .i64 x10_1 ∧ Aside0 (impl_roots.l0 kq a1 x6_1 a1 x10_1 a0_0 a0_1 = some (r1, r2)) ∧ Aside0 (kq ≤ k) ∧ Aside0 (Kd.R k23 23 w' w.heap.size (fun k_ => k_ ≠ gb274) v6 x6_1) ∧ Aside0 (w'.heap[gb274]? = some (.cells #[.int .i64 a0_0, .int .i64 a0_1] 23 (0, 0))) ∧ Aside0 (Below w.heap.size w w'))
 case atStart => exact ⟨(y275), (0), (by first | rfl | (simp; done) | (simp [*]; done)), H', ⟨Nat.le_refl _⟩, ⟨by (with_reducible repeat (first | apply Kd.R_alloc | apply Kd.R_drewN | apply Kd.R_drew)); exact Kd.R_mono HO277.out (fun _ hk => hk.2)⟩, bk_ BK274, hb_ HB⟩
 case round =>
  clear H'
  obtain ⟨x6_1, x10_1, rfl, HA, HK1, HO_6, BK274, HB⟩ := hrel
  cases gk with
  | zero => exact absurd HA.out (by simp [impl_roots.l0])
  | succ k1 =>
   have H := HA.out
   clear HA
   simp only [impl_roots.l0] at H
   by_cases c6 : x10_1 < a1
   ·
    rw [if_pos c6] at H
    have c6b0 : decide (x10_1 < a1) = true := decide_eq_true c6
    clear c6
    replace H := Option.bind_eq_some_iff.mp H
    obtain ⟨⟨t278, t279⟩, A70, H⟩ := H
    replace H : (if x6_1.length < 8796093022208 then (impl_roots.l0 k1 a1 (x6_1 ++ [(⟨t278, t279⟩ : S23)]) a1 (wrap64 (x10_1 + 1)) a0_0 a0_1) else (none)) = some (r1, r2) := H
    have A7 := Aside0.mk A70
    clear A70
    by_cases c8 : x6_1.length < 8796093022208
    ·
     rw [if_pos c8] at H
     have LMc8 := Aside0.mk c8
     clear c8
     obtain ⟨y280, hy280⟩ : ∃ y_ : List (S23), y_ = (x6_1 ++ [(⟨t278, t279⟩ : S23)]) := ⟨_, rfl⟩
     replace H : (impl_roots.l0 k1 a1 y280 a1 (wrap64 (x10_1 + 1)) a0_0 a0_1) = some (r1, r2) := by first | (rw [hy280]; with_reducible exact H) | (have H2_ := (Option.bind_some _ _).symm.trans H; rw [hy280]; with_reducible exact H2_) | (have H2_ := (Option.bind_some _ _).symm.trans H; with_reducible exact H2_) | with_reducible exact H | (rw [hy280]; exact H) | exact H
     have Ny280 := Aside0.mk hy280
     clear hy280
     as_aux_lemma =>
      have H' := Aside0.mk H
      clear H
      have hcz9_0 := cz_ BK274 0 (.int .i64 a0_0)
      have hcz9_1 := cz_ BK274 1 (.int .i64 a0_1)
      have hfz9_0 := blk_frozen BK274.out 0
      have hfz9_1 := blk_frozen BK274.out 1
      go_wp2_with (first | ((with_reducible refine gate_callee (f := 72) rfl ?_); refine gs_ (some 25) Try.func72 #[.int .i64 (wrap64 (a0_0 + (wrap64 (x10_1 * a0_1)))), .int .i64 (wrap64 (a0_1 * a1))] ?_; (with_reducible refine (impl_part.calls k1 (wrap64 (a0_0 + (wrap64 (x10_1 * a0_1)))) (wrap64 (a0_1 * a1)) t278 t279 _ A7.out).mono ?_); rintro e w10 ⟨rfl, hb⟩; refine ⟨_, rfl, ?_⟩; replace HO_6 := hr_ HO_6 hb; replace BK274 := bb BK274 hb; replace HB := hs HB hb; (try clear hb); (try clear hb2); (try clear hk); (try clear hi)) | ((with_reducible refine gate_builtin (b := .append) (xs := #[.tmp 13, .tmp 26]) rfl ?_); at_builtin; refine Kd.R_append k23 (w0 := w) w.heap.size rfl (.tmp 13) (.tmp 26) 34 23 (.agg #[(.int .i64 0), (.int .i64 0)]) 16 rfl Try.underlying34 info23 rfl (by decide) (by omega) u6 x6_1 (⟨t278, t279⟩ : S23) [.int .i64 t278, .int .i64 t279] (fun k_ => k_ ≠ gb274) (fun _ => False) rfl rfl ?aP (fun _ hk => hk.elim) ?aF ?aO ?aB ?aS ?aL ?_; (case aP => exact k23_mkM _ _ _ (⟨t278, t279⟩ : S23)); (case aB => exact (ho_ HB)); (case aF => exact (fun k_ hk => Kd.freshB (g := gb274) (o := .cells #[.int .i64 a0_0, .int .i64 a0_1] 23 (0, 0)) (by (with_reducible repeat (first | refine blk_drewN ?_ _ | refine blk_drew ?_ | refine blk_alloc ?_ _)); exact BK274.out) k_ hk)); (case aO => exact (by (with_reducible repeat (first | apply Kd.R_alloc | apply Kd.R_drewN | apply Kd.R_drew)); exact HO_6.out)); (case aS => exact (bs_ HB)); (case aL => have := LMc8.out; omega); intro v281 w11 ho hb hg hat; rw [← Ny280.out] at ho; have n0_ := Aside0.mk (blk_grown (g := gb274) (o := .cells #[.int .i64 a0_0, .int .i64 a0_1] 23 (0, 0)) (by (with_reducible repeat (first | refine blk_drewN ?_ _ | refine blk_drew ?_ | refine blk_alloc ?_ _)); exact BK274.out) hg (Kd.R_away HO_6.out (fun _ hk => hk))); have n1_ := Aside0.mk (hb); have n2_ := Aside0.mk (ho); clear BK274; clear HB; clear HO_6; have BK274 := n0_; have HB := n1_; have HO282 := n2_; clear n0_ n1_ n2_; clear ho hb hg hat))
      go_roundg k1
      case measure => have := HK1.out; omega
      case rel => exact ⟨(y280), (wrap64 (x10_1 + 1)), (by first | rfl | (simp; done) | (simp [*]; done)), H', ⟨by have := HK1.out; omega⟩, ⟨by (with_reducible repeat (first | apply Kd.R_alloc | apply Kd.R_drewN | apply Kd.R_drew)); exact HO282.out⟩, bk_ BK274, hb_ HB⟩
    ·
     rw [if_neg c8] at H
     exact absurd H (by simp)
   ·
    rw [if_neg c6] at H
    have c6b0 : decide (x10_1 < a1) = false := decide_eq_false c6
    clear c6
    replace H := Option.bind_eq_some_iff.mp H
    obtain ⟨t283, A120, H⟩ := H
    replace H : (some (x6_1, t283)) = some (r1, r2) := H
    have A12 := Aside0.mk A120
    clear A120
    as_aux_lemma =>
     simp only [Option.some.injEq, Prod.mk.injEq] at H
     obtain ⟨rfl, rfl⟩ := H
     obtain ⟨Ao13, co13, eo13⟩ := Kd.R_slice HO_6.out
     subst eo13
     go_wp2_with (first | ((with_reducible refine gate_callee (f := 53) rfl ?_); refine gs_ (some 31) Try.func53 #[.slice Ao13 x6_1.length co13] ?_; (with_reducible refine (impl_areTurns.calls k1 _ _ x6_1 t283 _ ?side1 ?side2 A12.out).mono ?_); (case side1 => repeat (first | exact (Kd.R_reads' HO_6.out).2.2 | (with_reducible refine Kd.C_alloc ?_ _) | (with_reducible refine Kd.C_drewN ?_ _) | (with_reducible refine Kd.C_drew ?_))); (case side2 => exact (Kd.R_reads' HO_6.out).2.1); rintro e w14 ⟨rfl, hb⟩; refine ⟨_, rfl, ?_⟩; replace HO_6 := hr_ HO_6 hb; replace BK274 := bb BK274 hb; replace HB := hs HB hb; (try clear hb); (try clear hb2); (try clear hk); (try clear hi)))
     go_ret2
     exact ⟨_, by first | rfl | (simp [errW_none, errW_some] <;> rfl) | (simp [*, errW_none, errW_some] <;> rfl), by (with_reducible repeat (first | apply Kd.R_alloc | apply Kd.R_drewN | apply Kd.R_drew)); exact Kd.R_mono HO_6.out (fun _ hk => trivial), (ho_ HB)⟩

/-! ### impl_AllExchanged: function 16 -/
def impl_AllExchanged.f (k : Nat) (a0 : Int) : Option ((List (S23)) × Bool) := (impl_isDial.f a0).bind fun t284 => (if t284 = true then ((impl_roots.f k 0 1 (wrap64 ((wrap64 (a0 * a0)) - 1))).bind fun bt285 => ((impl_ifTurns.f k bt285.1 bt285.2).bind fun bt289 => (some (bt289.1, bt289.2)))) else (some (([] : List (S23)), false)))
theorem impl_AllExchanged.mono : ∀ a0 k, LeO (impl_AllExchanged.f k a0) (impl_AllExchanged.f (k + 1) a0) := by
 intro a0 k
 unfold impl_AllExchanged.f
 repeat' first
   | (with_reducible exact impl_ifTurns.mono _ _ _)
   | (with_reducible exact impl_roots.mono _ _ _ _)
   | (with_reducible exact LeO.refl _)
   | (with_reducible exact LeO.none _)
   | (with_reducible refine LeO.ite ?_ ?_)
   | (with_reducible refine LeO.bind ?_ (fun _ => ?_))
   | exact impl_ifTurns.mono _ _ _
   | exact impl_roots.mono _ _ _ _
   | exact LeO.none _
   | refine LeO.ite ?_ ?_
   | refine LeO.bind ?_ (fun _ => ?_)
set_option maxHeartbeats 8000000 in
set_option maxRecDepth 100000 in
theorem impl_AllExchanged.calls (k : Nat) (a0 : Int) (r1 : List (S23)) (r2 : Bool) (w : World) (h : impl_AllExchanged.f k a0 = some (r1, r2)) :
  Calls Try.prog 16 #[.int .i64 a0] w fun e w' => ∃ v0_ : Value, e = .returned (.tuple #[v0_, .bool r2]) ∧ Kd.R k23 23 w' w.heap.size (fun _ => True) v0_ r1 ∧ Below w.heap.size w w' := by
 have hu23 := Try.underlying23
 have HB := Aside0.mk (Below.refl w.heap.size w)
 have H : ((impl_isDial.f a0).bind fun t284 => (if t284 = true then ((impl_roots.f k 0 1 (wrap64 ((wrap64 (a0 * a0)) - 1))).bind fun bt285 => ((impl_ifTurns.f k bt285.1 bt285.2).bind fun bt289 => (some (bt289.1, bt289.2)))) else (some (([] : List (S23)), false)))) = some (r1, r2) := h
 clear h
 replace H := Option.bind_eq_some_iff.mp H
 obtain ⟨t284, A20, H⟩ := H
 replace H : (if t284 = true then ((impl_roots.f k 0 1 (wrap64 ((wrap64 (a0 * a0)) - 1))).bind fun bt285 => ((impl_ifTurns.f k bt285.1 bt285.2).bind fun bt289 => (some (bt289.1, bt289.2)))) else (some (([] : List (S23)), false))) = some (r1, r2) := H
 have A2 := Aside0.mk A20
 clear A20
 by_cases c3 : t284 = true
 ·
  subst c3
  have H1 : ((impl_roots.f k 0 1 (wrap64 ((wrap64 (a0 * a0)) - 1))).bind fun bt285 => ((impl_ifTurns.f k bt285.1 bt285.2).bind fun bt289 => (some (bt289.1, bt289.2)))) = some (r1, r2) := by rw [if_pos rfl] at H; exact H
  clear H
  have H := H1
  clear H1
  replace H := Option.bind_eq_some_iff.mp H
  obtain ⟨⟨t285, t288⟩, A40, H⟩ := H
  replace H : ((impl_ifTurns.f k t285 t288).bind fun bt289 => (some (bt289.1, bt289.2))) = some (r1, r2) := H
  have A4 := Aside0.mk A40
  clear A40
  replace H := Option.bind_eq_some_iff.mp H
  obtain ⟨⟨t289, t292⟩, A50, H⟩ := H
  replace H : (some (t289, t292)) = some (r1, r2) := H
  have A5 := Aside0.mk A50
  clear A50
  as_aux_lemma =>
   simp only [Option.some.injEq, Prod.mk.injEq] at H
   obtain ⟨rfl, rfl⟩ := H
   go_enter Try.func16, Try.ntmps16
   go_wp2_with (first | ((with_reducible refine gate_callee (f := 54) rfl ?_); refine gs_ (some 5) Try.func54 #[.int .i64 a0] ?_; (with_reducible refine (impl_isDial.calls a0 true _ A2.out).mono ?_); rintro e w' ⟨rfl, ⟨nd, rfl⟩⟩; refine ⟨_, rfl, ?_⟩) | ((with_reducible refine gate_callee (f := 56) rfl ?_); refine gs_ (some 12) Try.func56 #[.agg #[.int .i64 0, .int .i64 1], .int .i64 (wrap64 ((wrap64 (a0 * a0)) - 1))] ?_; (with_reducible refine (impl_roots.calls k 0 1 (wrap64 ((wrap64 (a0 * a0)) - 1)) t285 t288 _ A4.out).mono ?_); rintro e w6 ⟨v286, rfl, ho0, hb⟩; refine ⟨_, rfl, ?_⟩; have HO287 := Aside0.mk (Kd.R_lower ho0 (bs_ HB)); replace HB := hs HB hb; (try clear hb); (try clear hb2); (try clear hk); (try clear hi); (try clear ho0); obtain ⟨Ao7, co7, eo7⟩ := Kd.R_slice HO287.out; subst eo7) | ((with_reducible refine gate_callee (f := 55) rfl ?_); refine gs_ (some 15) Try.func55 #[.slice Ao7 t285.length co7, .bool t288] ?_; (with_reducible refine (impl_ifTurns.calls k (fun k_ => some k_ = (.slice Ao7 t285.length co7 : Value).ownBlock) (.slice Ao7 t285.length co7) t285 t288 t289 t292 w _ ?side1 ?side2 A5.out).mono ?_); (case side1 => repeat (first | (with_reducible first | exact HB.out | apply below_alloc | apply pw_below_drewN | apply below_drew1) | exact HB.out)); (case side2 => exact Kd.R_tight rfl HO287.out); rintro e w8 ⟨v290, rfl, ho0, hb, hkp⟩; refine ⟨_, rfl, ?_⟩; have n0_ := Aside0.mk (Kd.R_mono (ok' := fun k_ => True) ho0 (fun k_ hk_ => trivial)); have n1_ := Aside0.mk (hb); clear HB; clear HO287; have HO291 := n0_; have HB := n1_; clear n0_ n1_; (try clear hb); (try clear hkp); (try clear ho0)))
   go_ret2
   exact ⟨_, by first | rfl | (simp [errW_none, errW_some] <;> rfl) | (simp [*, errW_none, errW_some] <;> rfl), by (with_reducible repeat (first | apply Kd.R_alloc | apply Kd.R_drewN | apply Kd.R_drew)); exact HO291.out, (ho_ HB)⟩
 ·
  replace c3 := Bool.eq_false_iff.mpr c3
  subst c3
  have H1 : (some (([] : List (S23)), false)) = some (r1, r2) := by rw [if_neg (show ¬ (false = true) by decide)] at H; exact H
  clear H
  have H := H1
  clear H1
  as_aux_lemma =>
   simp only [Option.some.injEq, Prod.mk.injEq] at H
   obtain ⟨rfl, rfl⟩ := H
   go_enter Try.func16, Try.ntmps16
   go_wp2_with (first | ((with_reducible refine gate_callee (f := 54) rfl ?_); refine gs_ (some 5) Try.func54 #[.int .i64 a0] ?_; (with_reducible refine (impl_isDial.calls a0 false _ A2.out).mono ?_); rintro e w' ⟨rfl, ⟨nd, rfl⟩⟩; refine ⟨_, rfl, ?_⟩))
   go_ret2
   exact ⟨_, by first | rfl | (simp [errW_none, errW_some] <;> rfl) | (simp [*, errW_none, errW_some] <;> rfl), by first | exact Kd.R_nil _ _ _ _ _ | exact Kd.N_nil _ _ _ _ _ | exact Kd.V_nil _ _ _ _ _ | exact Kd.Q_nil _ _ _ _ _ | exact Kd.S_nil _ _ _ _ _, (ho_ HB)⟩

/-! ### spec_seParts: function 58 -/
def spec_seParts.l0 : Nat → Int → Int → List (S23) → Int → Option ((List (S23)))
 | 0, _, _, _, _ => none
 | k + 1, x0, x1, x5, x6 => if x6 < (wrap64 (x0 + x1)) then ((spec_diMake.f k x6 x1).bind fun bt293 => (if x5.length < 8796093022208 then (spec_seParts.l0 k x0 x1 (x5 ++ [(⟨bt293.1, bt293.2.1⟩ : S23)]) (wrap64 (x6 + 1))) else (none))) else (some x5)
def spec_seParts.f (k : Nat) (a0 : Int) (a1 : Int) : Option ((List (S23))) := spec_seParts.l0 k a0 a1 ([] : List (S23)) a0
theorem spec_seParts.mono_l : ∀ k, (∀ y0 y1 y2 y3, LeO (spec_seParts.l0 k y0 y1 y2 y3) (spec_seParts.l0 (k + 1) y0 y1 y2 y3))
 | 0 => fun _ _ _ _ r h => by simp [spec_seParts.l0] at h
 | k + 1 => by
  have ih0 := spec_seParts.mono_l k
  ·
   intro y0 y1 y2 y3
   unfold spec_seParts.l0
   repeat' first
   | (with_reducible exact ih0 _ _ _ _)
   | (with_reducible exact spec_diMake.mono _ _ _)
   | (with_reducible exact LeO.refl _)
   | (with_reducible exact LeO.none _)
   | (with_reducible refine LeO.ite ?_ ?_)
   | (with_reducible refine LeO.bind ?_ (fun _ => ?_))
   | exact ih0 _ _ _ _
   | exact spec_diMake.mono _ _ _
   | exact LeO.none _
   | refine LeO.ite ?_ ?_
   | refine LeO.bind ?_ (fun _ => ?_)
theorem spec_seParts.mono : ∀ a0 a1 k, LeO (spec_seParts.f k a0 a1) (spec_seParts.f (k + 1) a0 a1) := by
 intro a0 a1 k
 have ih0 := spec_seParts.mono_l k
 unfold spec_seParts.f
 repeat' first
   | (with_reducible exact ih0 _ _ _ _)
   | (with_reducible exact spec_diMake.mono _ _ _)
   | (with_reducible exact LeO.refl _)
   | (with_reducible exact LeO.none _)
   | (with_reducible refine LeO.ite ?_ ?_)
   | (with_reducible refine LeO.bind ?_ (fun _ => ?_))
   | exact ih0 _ _ _ _
   | exact spec_diMake.mono _ _ _
   | exact LeO.none _
   | refine LeO.ite ?_ ?_
   | refine LeO.bind ?_ (fun _ => ?_)
set_option maxHeartbeats 8000000 in
set_option maxRecDepth 100000 in
theorem spec_seParts.calls (k : Nat) (a0 : Int) (a1 : Int) (r : List (S23)) (w : World) (h : spec_seParts.f k a0 a1 = some r) :
  Calls Try.prog 58 #[.int .i64 a0, .int .i64 a1] w fun e w' => ∃ v0_ : Value, e = .returned (v0_) ∧ Kd.R k23 23 w' w.heap.size (fun _ => True) v0_ r ∧ Below w.heap.size w w' := by
 have hu23 := Try.underlying23
 have HB := Aside0.mk (Below.refl w.heap.size w)
 have H : (spec_seParts.l0 k a0 a1 ([] : List (S23)) a0) = some r := h
 clear h
 have H' := Aside0.mk H
 clear H
 go_enter Try.func58, Try.ntmps58
 go_wp2
 go_loopg [5, 6] k (fun kq v5 v6 w' => ∃ (x5_1 : List (S23)) (x6_1 : Int), v6 = .int .i64 x6_1 ∧ Aside0 (spec_seParts.l0 kq a0 a1 x5_1 x6_1 = some r) ∧ Aside0 (kq ≤ k) ∧ Aside0 (Kd.R k23 23 w' w.heap.size (fun _ => True) v5 x5_1) ∧ Aside0 (Below w.heap.size w w'))
 case atStart => exact ⟨(([] : List (S23))), (a0), (by first | rfl | (simp; done) | (simp [*]; done)), H', ⟨Nat.le_refl _⟩, ⟨by first | exact Kd.R_nil _ _ _ _ _ | exact Kd.N_nil _ _ _ _ _ | exact Kd.V_nil _ _ _ _ _ | exact Kd.Q_nil _ _ _ _ _ | exact Kd.S_nil _ _ _ _ _⟩, hb_ HB⟩
 case round =>
  clear H'
  obtain ⟨x5_1, x6_1, rfl, HA, HK1, HO_5, HB⟩ := hrel
  cases gk with
  | zero => exact absurd HA.out (by simp [spec_seParts.l0])
  | succ k1 =>
   have H := HA.out
   clear HA
   simp only [spec_seParts.l0] at H
   by_cases c3 : x6_1 < (wrap64 (a0 + a1))
   ·
    rw [if_pos c3] at H
    have c3b0 : decide (x6_1 < (wrap64 (a0 + a1))) = true := decide_eq_true c3
    clear c3
    replace H := Option.bind_eq_some_iff.mp H
    obtain ⟨⟨t293, t294, t295⟩, A40, H⟩ := H
    replace H : (if x5_1.length < 8796093022208 then (spec_seParts.l0 k1 a0 a1 (x5_1 ++ [(⟨t293, t294⟩ : S23)]) (wrap64 (x6_1 + 1))) else (none)) = some r := H
    have A4 := Aside0.mk A40
    clear A40
    by_cases c5 : x5_1.length < 8796093022208
    ·
     rw [if_pos c5] at H
     have LMc5 := Aside0.mk c5
     clear c5
     obtain ⟨y297, hy297⟩ : ∃ y_ : List (S23), y_ = (x5_1 ++ [(⟨t293, t294⟩ : S23)]) := ⟨_, rfl⟩
     replace H : (spec_seParts.l0 k1 a0 a1 y297 (wrap64 (x6_1 + 1))) = some r := by first | (rw [hy297]; with_reducible exact H) | (have H2_ := (Option.bind_some _ _).symm.trans H; rw [hy297]; with_reducible exact H2_) | (have H2_ := (Option.bind_some _ _).symm.trans H; with_reducible exact H2_) | with_reducible exact H | (rw [hy297]; exact H) | exact H
     have Ny297 := Aside0.mk hy297
     clear hy297
     as_aux_lemma =>
      have H' := Aside0.mk H
      clear H
      go_wp2_with (first | ((with_reducible refine gate_callee (f := 71) rfl ?_); refine gs_ (some 20) Try.func71 #[.int .i64 x6_1, .int .i64 a1] ?_; (with_reducible refine (spec_diMake.calls k1 x6_1 a1 t293 t294 t295 _ A4.out).mono ?_); rintro e w6 ⟨rfl, hb⟩; refine ⟨_, rfl, ?_⟩; replace HO_5 := hr_ HO_5 hb; replace HB := hs HB hb; (try clear hb); (try clear hb2); (try clear hk); (try clear hi)) | ((with_reducible refine gate_dst (N := 7) rfl ?_); refine be_ (N := 7) (cs := #[.int .i64 0, .int .i64 0]) (t := 23) ?_; intro gb296 hg w7 hbox hb; have BK296 := Aside0.mk (hbox); have GW296 := ge_ HB hg; have GE296 := ge_ HB hg; replace HO_5 := Aside0.mk (Kd.R_below (Kd.R_elderB (by (with_reducible repeat (first | apply Kd.R_alloc | apply Kd.R_drewN | apply Kd.R_drew)); exact HO_5.out) gb296 (Nat.le_of_eq hg.symm)) hb); replace HB := hs HB hb; clear hb hbox hg; have hcz8_0 := cz_ BK296 0 (.int .i64 0); have hcz8_1 := cz_ BK296 1 (.int .i64 0); have hfz8_0 := blk_frozen BK296.out 0; have hfz8_1 := blk_frozen BK296.out 1) | ((with_reducible refine gate_builtin (b := .append) (xs := #[.tmp 23, .tmp 25]) rfl ?_); at_builtin; refine Kd.R_append k23 (w0 := w) w.heap.size rfl (.tmp 23) (.tmp 25) 34 23 (.agg #[(.int .i64 0), (.int .i64 0)]) 16 rfl Try.underlying34 info23 rfl (by decide) (by omega) u5 x5_1 (⟨t293, t294⟩ : S23) [.int .i64 t293, .int .i64 t294] (fun k_ => k_ ≠ gb296) (fun _ => False) rfl (by first | (go_simp; done) | (go_simp; rfl)) ?aP (fun _ hk => hk.elim) ?aF ?aO ?aB ?aS ?aL ?_; (case aP => exact k23_mkM _ _ _ (⟨t293, t294⟩ : S23)); (case aB => exact (ho_ HB)); (case aF => exact (fun k_ hk => Kd.freshB (g := gb296) (o := .cells #[.int .i64 t293, .int .i64 t294] 23 (0, 0)) (by (with_reducible repeat (first | refine blk_drewN ?_ _ | refine blk_drew ?_ | refine blk_alloc ?_ _)); refine blk_put (cs := #[.int .i64 t293, .int .i64 0]) ?_ 1 _ rfl; (with_reducible repeat (first | refine blk_drewN ?_ _ | refine blk_drew ?_ | refine blk_alloc ?_ _)); refine blk_put (cs := #[.int .i64 0, .int .i64 0]) ?_ 0 _ rfl; (with_reducible repeat (first | refine blk_drewN ?_ _ | refine blk_drew ?_ | refine blk_alloc ?_ _)); exact BK296.out) k_ hk)); (case aO => exact (by (with_reducible repeat (first | apply Kd.R_alloc | apply Kd.R_drewN | apply Kd.R_drew)); exact Kd.R_mono (Kd.R_far (p := ⟨gb296, 1, none⟩) (Kd.R_far (p := ⟨gb296, 0, none⟩) (Kd.R_mono HO_5.out (fun k_ hk => (⟨hk, hk.2⟩ : _ ∧ k_ ≠ gb296))) (fun _ hk => hk.2) (.int .i64 t293)) (fun _ hk => hk.2) (.int .i64 t294)) (fun _ hk => hk.1.2))); (case aS => exact (bs_ HB)); (case aL => have := LMc5.out; omega); intro v298 w9 ho hb hg hat; rw [← Ny297.out] at ho; have n0_ := Aside0.mk (blk_grown (g := gb296) (o := .cells #[.int .i64 t293, .int .i64 t294] 23 (0, 0)) (by (with_reducible repeat (first | refine blk_drewN ?_ _ | refine blk_drew ?_ | refine blk_alloc ?_ _)); refine blk_put (cs := #[.int .i64 t293, .int .i64 0]) ?_ 1 _ rfl; (with_reducible repeat (first | refine blk_drewN ?_ _ | refine blk_drew ?_ | refine blk_alloc ?_ _)); refine blk_put (cs := #[.int .i64 0, .int .i64 0]) ?_ 0 _ rfl; (with_reducible repeat (first | refine blk_drewN ?_ _ | refine blk_drew ?_ | refine blk_alloc ?_ _)); exact BK296.out) hg (Kd.R_away HO_5.out (fun _ hk => hk.2))); have n1_ := Aside0.mk (hb); have n2_ := Aside0.mk (ho); clear BK296; clear HB; clear HO_5; have BK296 := n0_; have HB := n1_; have HO299 := n2_; clear n0_ n1_ n2_; clear ho hb hg hat))
      go_roundg k1
      case measure => have := HK1.out; omega
      case rel => exact ⟨(y297), (wrap64 (x6_1 + 1)), (by first | rfl | (simp; done) | (simp [*]; done)), H', ⟨by have := HK1.out; omega⟩, ⟨by (with_reducible repeat (first | apply Kd.R_alloc | apply Kd.R_drewN | apply Kd.R_drew)); exact Kd.R_mono HO299.out (fun _ hk => trivial)⟩, hb_ HB⟩
    ·
     rw [if_neg c5] at H
     exact absurd H (by simp)
   ·
    rw [if_neg c3] at H
    have c3b0 : decide (x6_1 < (wrap64 (a0 + a1))) = false := decide_eq_false c3
    clear c3
    as_aux_lemma =>
     obtain rfl := Option.some.inj H
     go_wp2
     go_ret
     exact ⟨_, by first | rfl | (simp [errW_none, errW_some] <;> rfl) | (simp [*, errW_none, errW_some] <;> rfl), by (with_reducible repeat (first | apply Kd.R_alloc | apply Kd.R_drewN | apply Kd.R_drew)); exact HO_5.out, (ho_ HB)⟩

/-! ### spec_AllExchanged: function 17 -/
def spec_AllExchanged.f (k : Nat) (a0 : Int) : Option ((List (S23)) × Bool) := (spec_diHours.f a0).bind fun t300 => (if t300 = true then ((spec_seParts.f k 0 (wrap64 ((wrap64 (a0 * a0)) - 1))).bind fun t301 => (some (t301, true))) else (some (([] : List (S23)), false)))
theorem spec_AllExchanged.mono : ∀ a0 k, LeO (spec_AllExchanged.f k a0) (spec_AllExchanged.f (k + 1) a0) := by
 intro a0 k
 unfold spec_AllExchanged.f
 repeat' first
   | (with_reducible exact spec_seParts.mono _ _ _)
   | (with_reducible exact LeO.refl _)
   | (with_reducible exact LeO.none _)
   | (with_reducible refine LeO.ite ?_ ?_)
   | (with_reducible refine LeO.bind ?_ (fun _ => ?_))
   | exact spec_seParts.mono _ _ _
   | exact LeO.none _
   | refine LeO.ite ?_ ?_
   | refine LeO.bind ?_ (fun _ => ?_)
set_option maxHeartbeats 8000000 in
set_option maxRecDepth 100000 in
theorem spec_AllExchanged.calls (k : Nat) (a0 : Int) (r1 : List (S23)) (r2 : Bool) (w : World) (h : spec_AllExchanged.f k a0 = some (r1, r2)) :
  Calls Try.prog 17 #[.int .i64 a0] w fun e w' => ∃ v0_ : Value, e = .returned (.tuple #[v0_, .bool r2]) ∧ Kd.R k23 23 w' w.heap.size (fun _ => True) v0_ r1 ∧ Below w.heap.size w w' := by
 have HB := Aside0.mk (Below.refl w.heap.size w)
 have H : ((spec_diHours.f a0).bind fun t300 => (if t300 = true then ((spec_seParts.f k 0 (wrap64 ((wrap64 (a0 * a0)) - 1))).bind fun t301 => (some (t301, true))) else (some (([] : List (S23)), false)))) = some (r1, r2) := h
 clear h
 replace H := Option.bind_eq_some_iff.mp H
 obtain ⟨t300, A20, H⟩ := H
 replace H : (if t300 = true then ((spec_seParts.f k 0 (wrap64 ((wrap64 (a0 * a0)) - 1))).bind fun t301 => (some (t301, true))) else (some (([] : List (S23)), false))) = some (r1, r2) := H
 have A2 := Aside0.mk A20
 clear A20
 by_cases c3 : t300 = true
 ·
  subst c3
  have H1 : ((spec_seParts.f k 0 (wrap64 ((wrap64 (a0 * a0)) - 1))).bind fun t301 => (some (t301, true))) = some (r1, r2) := by rw [if_pos rfl] at H; exact H
  clear H
  have H := H1
  clear H1
  replace H := Option.bind_eq_some_iff.mp H
  obtain ⟨t301, A40, H⟩ := H
  replace H : (some (t301, true)) = some (r1, r2) := H
  have A4 := Aside0.mk A40
  clear A40
  as_aux_lemma =>
   simp only [Option.some.injEq, Prod.mk.injEq] at H
   obtain ⟨rfl, rfl⟩ := H
   go_enter Try.func17, Try.ntmps17
   go_wp2_with (first | ((with_reducible refine gate_callee (f := 57) rfl ?_); refine gs_ (some 5) Try.func57 #[.int .i64 a0] ?_; (with_reducible refine (spec_diHours.calls a0 true _ A2.out).mono ?_); rintro e w' ⟨rfl, ⟨nd, rfl⟩⟩; refine ⟨_, rfl, ?_⟩) | ((with_reducible refine gate_callee (f := 58) rfl ?_); refine gs_ (some 11) Try.func58 #[.int .i64 0, .int .i64 (wrap64 ((wrap64 (a0 * a0)) - 1))] ?_; (with_reducible refine (spec_seParts.calls k 0 (wrap64 ((wrap64 (a0 * a0)) - 1)) t301 _ A4.out).mono ?_); rintro e w5 ⟨v302, rfl, ho0, hb⟩; refine ⟨_, rfl, ?_⟩; have HO303 := Aside0.mk (Kd.R_lower ho0 (bs_ HB)); replace HB := hs HB hb; (try clear hb); (try clear hb2); (try clear hk); (try clear hi); (try clear ho0)))
   go_ret2
   exact ⟨_, by first | rfl | (simp [errW_none, errW_some] <;> rfl) | (simp [*, errW_none, errW_some] <;> rfl), by (with_reducible repeat (first | apply Kd.R_alloc | apply Kd.R_drewN | apply Kd.R_drew)); exact HO303.out, (ho_ HB)⟩
 ·
  replace c3 := Bool.eq_false_iff.mpr c3
  subst c3
  have H1 : (some (([] : List (S23)), false)) = some (r1, r2) := by rw [if_neg (show ¬ (false = true) by decide)] at H; exact H
  clear H
  have H := H1
  clear H1
  as_aux_lemma =>
   simp only [Option.some.injEq, Prod.mk.injEq] at H
   obtain ⟨rfl, rfl⟩ := H
   go_enter Try.func17, Try.ntmps17
   go_wp2_with (first | ((with_reducible refine gate_callee (f := 57) rfl ?_); refine gs_ (some 5) Try.func57 #[.int .i64 a0] ?_; (with_reducible refine (spec_diHours.calls a0 false _ A2.out).mono ?_); rintro e w' ⟨rfl, ⟨nd, rfl⟩⟩; refine ⟨_, rfl, ?_⟩))
   go_ret2
   exact ⟨_, by first | rfl | (simp [errW_none, errW_some] <;> rfl) | (simp [*, errW_none, errW_some] <;> rfl), by first | exact Kd.R_nil _ _ _ _ _ | exact Kd.N_nil _ _ _ _ _ | exact Kd.V_nil _ _ _ _ _ | exact Kd.Q_nil _ _ _ _ _ | exact Kd.S_nil _ _ _ _ _, (ho_ HB)⟩

/-! ### impl_CountUnsure: function 18 -/
def impl_CountUnsure.f (a0 : Int) : Option (Int × Bool) := (impl_isDial.f a0).bind fun t304 => (if t304 = true then (some (wrap64 ((wrap64 (a0 * a0)) - a0), true)) else (some (0, false)))
set_option maxHeartbeats 8000000 in
set_option maxRecDepth 100000 in
theorem impl_CountUnsure.calls (a0 : Int) (r1 : Int) (r2 : Bool) (w : World) (h : impl_CountUnsure.f a0 = some (r1, r2)) :
  Calls Try.prog 18 #[.int .i64 a0] w fun e w' => e = .returned (.tuple #[.int .i64 r1, .bool r2]) ∧ Drawn0 w w' := by
 have H : ((impl_isDial.f a0).bind fun t304 => (if t304 = true then (some (wrap64 ((wrap64 (a0 * a0)) - a0), true)) else (some (0, false)))) = some (r1, r2) := h
 clear h
 replace H := Option.bind_eq_some_iff.mp H
 obtain ⟨t304, A20, H⟩ := H
 replace H : (if t304 = true then (some (wrap64 ((wrap64 (a0 * a0)) - a0), true)) else (some (0, false))) = some (r1, r2) := H
 have A2 := Aside0.mk A20
 clear A20
 by_cases c3 : t304 = true
 ·
  subst c3
  have H1 : (some (wrap64 ((wrap64 (a0 * a0)) - a0), true)) = some (r1, r2) := by rw [if_pos rfl] at H; exact H
  clear H
  have H := H1
  clear H1
  as_aux_lemma =>
   simp only [Option.some.injEq, Prod.mk.injEq] at H
   obtain ⟨rfl, rfl⟩ := H
   go_enter Try.func18, Try.ntmps18
   go_wp2_with (first | ((with_reducible refine gate_callee (f := 54) rfl ?_); refine gs_ (some 5) Try.func54 #[.int .i64 a0] ?_; (with_reducible refine (impl_isDial.calls a0 true _ A2.out).mono ?_); rintro e w' ⟨rfl, ⟨nd, rfl⟩⟩; refine ⟨_, rfl, ?_⟩))
   go_ret2
   exact ⟨by first | rfl | (simp; done) | (simp [*]; done), by repeat (first | exact Drawn0.refl _ | apply Drawn0.step)⟩
 ·
  replace c3 := Bool.eq_false_iff.mpr c3
  subst c3
  have H1 : (some (0, false)) = some (r1, r2) := by rw [if_neg (show ¬ (false = true) by decide)] at H; exact H
  clear H
  have H := H1
  clear H1
  as_aux_lemma =>
   simp only [Option.some.injEq, Prod.mk.injEq] at H
   obtain ⟨rfl, rfl⟩ := H
   go_enter Try.func18, Try.ntmps18
   go_wp2_with (first | ((with_reducible refine gate_callee (f := 54) rfl ?_); refine gs_ (some 5) Try.func54 #[.int .i64 a0] ?_; (with_reducible refine (impl_isDial.calls a0 false _ A2.out).mono ?_); rintro e w' ⟨rfl, ⟨nd, rfl⟩⟩; refine ⟨_, rfl, ?_⟩))
   go_ret2
   exact ⟨by first | rfl | (simp; done) | (simp [*]; done), by repeat (first | exact Drawn0.refl _ | apply Drawn0.step)⟩

/-! ### spec_CountUnsure: function 19 -/
def spec_CountUnsure.f (a0 : Int) : Option (Int × Bool) := (spec_diHours.f a0).bind fun t305 => (if t305 = true then (some (wrap64 ((wrap64 ((wrap64 (a0 * a0)) - 1)) - (wrap64 (a0 - 1))), true)) else (some (0, false)))
set_option maxHeartbeats 8000000 in
set_option maxRecDepth 100000 in
theorem spec_CountUnsure.calls (a0 : Int) (r1 : Int) (r2 : Bool) (w : World) (h : spec_CountUnsure.f a0 = some (r1, r2)) :
  Calls Try.prog 19 #[.int .i64 a0] w fun e w' => e = .returned (.tuple #[.int .i64 r1, .bool r2]) ∧ Drawn0 w w' := by
 have H : ((spec_diHours.f a0).bind fun t305 => (if t305 = true then (some (wrap64 ((wrap64 ((wrap64 (a0 * a0)) - 1)) - (wrap64 (a0 - 1))), true)) else (some (0, false)))) = some (r1, r2) := h
 clear h
 replace H := Option.bind_eq_some_iff.mp H
 obtain ⟨t305, A20, H⟩ := H
 replace H : (if t305 = true then (some (wrap64 ((wrap64 ((wrap64 (a0 * a0)) - 1)) - (wrap64 (a0 - 1))), true)) else (some (0, false))) = some (r1, r2) := H
 have A2 := Aside0.mk A20
 clear A20
 by_cases c3 : t305 = true
 ·
  subst c3
  have H1 : (some (wrap64 ((wrap64 ((wrap64 (a0 * a0)) - 1)) - (wrap64 (a0 - 1))), true)) = some (r1, r2) := by rw [if_pos rfl] at H; exact H
  clear H
  have H := H1
  clear H1
  as_aux_lemma =>
   simp only [Option.some.injEq, Prod.mk.injEq] at H
   obtain ⟨rfl, rfl⟩ := H
   go_enter Try.func19, Try.ntmps19
   go_wp2_with (first | ((with_reducible refine gate_callee (f := 57) rfl ?_); refine gs_ (some 5) Try.func57 #[.int .i64 a0] ?_; (with_reducible refine (spec_diHours.calls a0 true _ A2.out).mono ?_); rintro e w' ⟨rfl, ⟨nd, rfl⟩⟩; refine ⟨_, rfl, ?_⟩))
   go_ret2
   exact ⟨by first | rfl | (simp; done) | (simp [*]; done), by repeat (first | exact Drawn0.refl _ | apply Drawn0.step)⟩
 ·
  replace c3 := Bool.eq_false_iff.mpr c3
  subst c3
  have H1 : (some (0, false)) = some (r1, r2) := by rw [if_neg (show ¬ (false = true) by decide)] at H; exact H
  clear H
  have H := H1
  clear H1
  as_aux_lemma =>
   simp only [Option.some.injEq, Prod.mk.injEq] at H
   obtain ⟨rfl, rfl⟩ := H
   go_enter Try.func19, Try.ntmps19
   go_wp2_with (first | ((with_reducible refine gate_callee (f := 57) rfl ?_); refine gs_ (some 5) Try.func57 #[.int .i64 a0] ?_; (with_reducible refine (spec_diHours.calls a0 false _ A2.out).mono ?_); rintro e w' ⟨rfl, ⟨nd, rfl⟩⟩; refine ⟨_, rfl, ?_⟩))
   go_ret2
   exact ⟨by first | rfl | (simp; done) | (simp [*]; done), by repeat (first | exact Drawn0.refl _ | apply Drawn0.step)⟩

/-! ### impl_OwnMirrors: function 20 -/
def impl_OwnMirrors.f (a0 : Int) : Option ((List (S23)) × Bool) := (impl_isDial.f a0).bind fun t306 => (if t306 = true then (some ((([(⟨0, 1⟩ : S23), (⟨1, 2⟩ : S23)] : List (S23))), true)) else (some (([] : List (S23)), false)))
set_option maxHeartbeats 8000000 in
set_option maxRecDepth 100000 in
theorem impl_OwnMirrors.calls (a0 : Int) (r1 : List (S23)) (r2 : Bool) (w : World) (h : impl_OwnMirrors.f a0 = some (r1, r2)) :
  Calls Try.prog 20 #[.int .i64 a0] w fun e w' => ∃ v0_ : Value, e = .returned (.tuple #[v0_, .bool r2]) ∧ Kd.R k23 23 w' w.heap.size (fun _ => True) v0_ r1 ∧ Below w.heap.size w w' := by
 have hu23 := Try.underlying23
 have HB := Aside0.mk (Below.refl w.heap.size w)
 have H : ((impl_isDial.f a0).bind fun t306 => (if t306 = true then (some ((([(⟨0, 1⟩ : S23), (⟨1, 2⟩ : S23)] : List (S23))), true)) else (some (([] : List (S23)), false)))) = some (r1, r2) := h
 clear h
 replace H := Option.bind_eq_some_iff.mp H
 obtain ⟨t306, A20, H⟩ := H
 replace H : (if t306 = true then (some ((([(⟨0, 1⟩ : S23), (⟨1, 2⟩ : S23)] : List (S23))), true)) else (some (([] : List (S23)), false))) = some (r1, r2) := H
 have A2 := Aside0.mk A20
 clear A20
 by_cases c3 : t306 = true
 ·
  subst c3
  have H1 : (some ((([(⟨0, 1⟩ : S23), (⟨1, 2⟩ : S23)] : List (S23))), true)) = some (r1, r2) := by rw [if_pos rfl] at H; exact H
  clear H
  have H := H1
  clear H1
  obtain ⟨y307, hy307⟩ : ∃ y_ : List (S23), y_ = (([(⟨0, 1⟩ : S23), (⟨1, 2⟩ : S23)] : List (S23))) := ⟨_, rfl⟩
  replace H : (some (y307, true)) = some (r1, r2) := by first | (rw [hy307]; with_reducible exact H) | (have H2_ := (Option.bind_some _ _).symm.trans H; rw [hy307]; with_reducible exact H2_) | (have H2_ := (Option.bind_some _ _).symm.trans H; with_reducible exact H2_) | with_reducible exact H | (rw [hy307]; exact H) | exact H
  have Ny307 := Aside0.mk hy307
  clear hy307
  as_aux_lemma =>
   simp only [Option.some.injEq, Prod.mk.injEq] at H
   obtain ⟨rfl, rfl⟩ := H
   go_enter Try.func20, Try.ntmps20
   go_wp2_with (first | ((with_reducible refine gate_callee (f := 54) rfl ?_); refine gs_ (some 5) Try.func54 #[.int .i64 a0] ?_; (with_reducible refine (impl_isDial.calls a0 true _ A2.out).mono ?_); rintro e w' ⟨rfl, ⟨nd, rfl⟩⟩; refine ⟨_, rfl, ?_⟩) | ((with_reducible refine gate_dst (N := 9) rfl ?_); refine Kd.R_lit k23 _ 23 ?hg (N := 9) ?hd (xs := ([(⟨0, 1⟩ : S23), (⟨1, 2⟩ : S23)] : List (S23))) (inner := [.int .i64 0, .int .i64 1, .int .i64 1, .int .i64 2]) (ok := fun _ => True) (okp := fun _ => True) ?hr ?hp (fun _ hk => hk) trivial (Below.refl _ _) (Nat.le_refl _) (by simp) ?_; (case hd => rfl); (case hg => rfl); (case hr => first | (go_simp; done) | (go_simp; rfl)); (case hp => exact (Reps.c2 (show Kd.M k23 _ _ _ (⟨0, 1⟩ : S23) [.int .i64 0, .int .i64 1] from (k23_mkM _ _ _ (⟨0, 1⟩ : S23) )) (Reps.c2 (show Kd.M k23 _ _ _ (⟨1, 2⟩ : S23) [.int .i64 1, .int .i64 2] from (k23_mkM _ _ _ (⟨1, 2⟩ : S23) )) (Reps.none _ _)))); intro v308 w4 ho5 hb hg_ hnew_; clear hg_ hnew_; (first | rw [← Ny307.out] at ho5 | (simp only [Int.reduceToNat] at ho5; rw [← Ny307.out] at ho5)); have HO309 := Aside0.mk (Kd.R_lower ho5 (bs_ HB)); replace HB := hs HB hb; clear hb ho5))
   go_ret2
   exact ⟨_, by first | rfl | (simp [errW_none, errW_some] <;> rfl) | (simp [*, errW_none, errW_some] <;> rfl), by (with_reducible repeat (first | apply Kd.R_alloc | apply Kd.R_drewN | apply Kd.R_drew)); exact HO309.out, (ho_ HB)⟩
 ·
  replace c3 := Bool.eq_false_iff.mpr c3
  subst c3
  have H1 : (some (([] : List (S23)), false)) = some (r1, r2) := by rw [if_neg (show ¬ (false = true) by decide)] at H; exact H
  clear H
  have H := H1
  clear H1
  as_aux_lemma =>
   simp only [Option.some.injEq, Prod.mk.injEq] at H
   obtain ⟨rfl, rfl⟩ := H
   go_enter Try.func20, Try.ntmps20
   go_wp2_with (first | ((with_reducible refine gate_callee (f := 54) rfl ?_); refine gs_ (some 5) Try.func54 #[.int .i64 a0] ?_; (with_reducible refine (impl_isDial.calls a0 false _ A2.out).mono ?_); rintro e w' ⟨rfl, ⟨nd, rfl⟩⟩; refine ⟨_, rfl, ?_⟩))
   go_ret2
   exact ⟨_, by first | rfl | (simp [errW_none, errW_some] <;> rfl) | (simp [*, errW_none, errW_some] <;> rfl), by first | exact Kd.R_nil _ _ _ _ _ | exact Kd.N_nil _ _ _ _ _ | exact Kd.V_nil _ _ _ _ _ | exact Kd.Q_nil _ _ _ _ _ | exact Kd.S_nil _ _ _ _ _, (ho_ HB)⟩

/-! ### spec_diMirror: function 81 -/
def spec_diMirror.f (k : Nat) (a0_0 : Int) (a0_1 : Int) : Option (Int × Int) := (spec_diTimes.f k a0_0 a0_1 (-1)).bind fun bt312 => (some (bt312.1, bt312.2))
theorem spec_diMirror.mono : ∀ a0 a1 k, LeO (spec_diMirror.f k a0 a1) (spec_diMirror.f (k + 1) a0 a1) := by
 intro a0 a1 k
 unfold spec_diMirror.f
 repeat' first
   | (with_reducible exact spec_diTimes.mono _ _ _ _)
   | (with_reducible exact LeO.refl _)
   | (with_reducible exact LeO.none _)
   | (with_reducible refine LeO.ite ?_ ?_)
   | (with_reducible refine LeO.bind ?_ (fun _ => ?_))
   | exact spec_diTimes.mono _ _ _ _
   | exact LeO.none _
   | refine LeO.ite ?_ ?_
   | refine LeO.bind ?_ (fun _ => ?_)
set_option maxHeartbeats 8000000 in
set_option maxRecDepth 100000 in
theorem spec_diMirror.calls (k : Nat) (a0_0 : Int) (a0_1 : Int) (r1 : Int) (r2 : Int) (w : World) (h : spec_diMirror.f k a0_0 a0_1 = some (r1, r2)) :
  Calls Try.prog 81 #[.agg #[.int .i64 a0_0, .int .i64 a0_1]] w fun e w' => e = .returned (.agg #[.int .i64 r1, .int .i64 r2]) ∧ Below w.heap.size w w' := by
 have hu23 := Try.underlying23
 have HB := Aside0.mk (Below.refl w.heap.size w)
 have H : ((spec_diTimes.f k a0_0 a0_1 (-1)).bind fun bt312 => (some (bt312.1, bt312.2))) = some (r1, r2) := h
 clear h
 replace H := Option.bind_eq_some_iff.mp H
 obtain ⟨⟨t312, t313⟩, A20, H⟩ := H
 replace H : (some (t312, t313)) = some (r1, r2) := H
 have A2 := Aside0.mk A20
 clear A20
 as_aux_lemma =>
  simp only [Option.some.injEq, Prod.mk.injEq] at H
  obtain ⟨rfl, rfl⟩ := H
  go_enter Try.func81, Try.ntmps81
  go_wp2_with (first | ((with_reducible refine gate_dst (N := 1) rfl ?_); refine be_ (N := 1) (cs := #[.int .i64 a0_0, .int .i64 a0_1]) (t := 23) ?_; intro gb310 hg w3 hbox hb; have BK310 := Aside0.mk (hbox); have GW310 := ge_ HB hg; have GE310 := ge_ HB hg; replace HB := hs HB hb; clear hb hbox hg) | ((with_reducible refine gate_dst (N := 2) rfl ?_); refine be_ (N := 2) (cs := #[.int .i64 0, .int .i64 0]) (t := 23) ?_; intro gb311 hg w4 hbox hb; have BK311 := Aside0.mk (hbox); have GW311 := ge_ HB hg; have GE311 := ge_ HB hg; obtain ⟨NB310_311, NB311_310⟩ := nq_ BK310 hg; replace BK310 := bb BK310 hb; replace HB := hs HB hb; clear hb hbox hg; obtain ⟨hnb5, hnc5⟩ := nn_ NB310_311; have hcz6_0 := cz_ BK310 0 (.int .i64 a0_0); have hcz6_1 := cz_ BK310 1 (.int .i64 a0_1); have hfz6_0 := blk_frozen BK310.out 0; have hfz6_1 := blk_frozen BK310.out 1) | ((with_reducible refine gate_callee (f := 47) rfl ?_); refine gs_ (some 4) Try.func47 #[.agg #[.int .i64 a0_0, .int .i64 a0_1], .int .i64 (-1)] ?_; (with_reducible refine (spec_diTimes.calls k a0_0 a0_1 (-1) t312 t313 _ A2.out).mono ?_); rintro e w7 ⟨rfl, hb⟩; refine ⟨_, rfl, ?_⟩; replace BK310 := bb BK310 hb; replace BK311 := bb BK311 hb; replace HB := hs HB hb; (try clear hb); (try clear hb2); (try clear hk); (try clear hi); have hcz8_0 := cz_ BK311 0 (.int .i64 0); have hcz8_1 := cz_ BK311 1 (.int .i64 0); have hfz8_0 := blk_frozen BK311.out 0; have hfz8_1 := blk_frozen BK311.out 1))
  refine bodyPost_ret (results_cell_row rfl _ _ gb311 23 #[.int .i64 t312, .int .i64 t313] (0, 0) _ rfl (by (with_reducible repeat (first | refine blk_drewN ?_ _ | refine blk_drew ?_ | refine blk_alloc ?_ _)); refine blk_put (cs := #[.int .i64 t312, .int .i64 0]) ?_ 1 _ rfl; (with_reducible repeat (first | refine blk_drewN ?_ _ | refine blk_drew ?_ | refine blk_alloc ?_ _)); refine blk_put (cs := #[.int .i64 0, .int .i64 0]) ?_ 0 _ rfl; (with_reducible repeat (first | refine blk_drewN ?_ _ | refine blk_drew ?_ | refine blk_alloc ?_ _)); exact BK311.out) Try.underlying23 rfl (by kernel_rfl)) rfl ?_
  exact ⟨by first | rfl | (simp [errW_none, errW_some] <;> rfl) | (simp [*, errW_none, errW_some] <;> rfl), (ho_ HB)⟩

/-! ### spec_seMirror: function 59 -/
def spec_seMirror.f (k : Nat) (a0_0 : Int) (a0_1 : Int) (a0_2 : Int) (a0_3 : Int) : Option (Int × Int × Int × Int) := (spec_diMirror.f k a0_0 a0_1).bind fun bt316 => ((spec_diMirror.f k a0_2 a0_3).bind fun bt318 => (some (bt316.1, bt316.2, bt318.1, bt318.2)))
theorem spec_seMirror.mono : ∀ a0 a1 a2 a3 k, LeO (spec_seMirror.f k a0 a1 a2 a3) (spec_seMirror.f (k + 1) a0 a1 a2 a3) := by
 intro a0 a1 a2 a3 k
 unfold spec_seMirror.f
 repeat' first
   | (with_reducible exact spec_diMirror.mono _ _ _)
   | (with_reducible exact LeO.refl _)
   | (with_reducible exact LeO.none _)
   | (with_reducible refine LeO.ite ?_ ?_)
   | (with_reducible refine LeO.bind ?_ (fun _ => ?_))
   | exact spec_diMirror.mono _ _ _
   | exact LeO.none _
   | refine LeO.ite ?_ ?_
   | refine LeO.bind ?_ (fun _ => ?_)
def spec_seMirror.T1 : Bool × List (List Nat × List Nat) := (true, [([], []), ([0], [0]), ([1], [1]), ([], []), ([3], [3]), ([4, 2], [4]), ([2, 5], [2, 5]), ([6, 5, 0, 1, 2, 3, 4, 5, 6], [6])])
def spec_seMirror.B1 : List Nat := [0, 1, 3, 0, 8, 31, 63, 127]
theorem spec_seMirror.tab1 : rtab .any (opsOf Try.f59 1) = spec_seMirror.T1 := by kernel_rfl
theorem spec_seMirror.bits1 : waitsOk spec_seMirror.T1.2 spec_seMirror.B1 = true := by kernel_rfl
set_option maxHeartbeats 8000000 in
set_option maxRecDepth 100000 in
theorem spec_seMirror.calls (k : Nat) (a0_0 : Int) (a0_1 : Int) (a0_2 : Int) (a0_3 : Int) (r1 : Int) (r2 : Int) (r3 : Int) (r4 : Int) (w : World) (h : spec_seMirror.f k a0_0 a0_1 a0_2 a0_3 = some (r1, r2, r3, r4)) :
  Calls Try.prog 59 #[.agg #[.int .i64 a0_0, .int .i64 a0_1, .int .i64 a0_2, .int .i64 a0_3]] w fun e w' => e = .returned (.agg #[.int .i64 r1, .int .i64 r2, .int .i64 r3, .int .i64 r4]) ∧ Below w.heap.size w w' := by
 have hu25 := Try.underlying25
 have hu23 := Try.underlying23
 have HB := Aside0.mk (Below.refl w.heap.size w)
 have H : ((spec_diMirror.f k a0_0 a0_1).bind fun bt316 => ((spec_diMirror.f k a0_2 a0_3).bind fun bt318 => (some (bt316.1, bt316.2, bt318.1, bt318.2)))) = some (r1, r2, r3, r4) := h
 clear h
 replace H := Option.bind_eq_some_iff.mp H
 obtain ⟨⟨t316, t317⟩, A20, H⟩ := H
 replace H : ((spec_diMirror.f k a0_2 a0_3).bind fun bt318 => (some (t316, t317, bt318.1, bt318.2))) = some (r1, r2, r3, r4) := H
 have A2 := Aside0.mk A20
 clear A20
 replace H := Option.bind_eq_some_iff.mp H
 obtain ⟨⟨t318, t319⟩, A30, H⟩ := H
 replace H : (some (t316, t317, t318, t319)) = some (r1, r2, r3, r4) := H
 have A3 := Aside0.mk A30
 clear A30
 as_aux_lemma =>
  simp only [Option.some.injEq, Prod.mk.injEq] at H
  obtain ⟨rfl, rfl, rfl, rfl⟩ := H
  go_enter Try.func59, Try.ntmps59
  try go_wp2_with (first | ((with_reducible refine gate_dst (N := 1) rfl ?_); refine be_ (N := 1) (cs := #[.int .i64 a0_0, .int .i64 a0_1, .int .i64 a0_2, .int .i64 a0_3]) (t := 25) ?_; intro gb314 hg w4 hbox hb; have BK314 := Aside0.mk (hbox); have GW314 := ge_ HB hg; have GE314 := ge_ HB hg; replace HB := hs HB hb; clear hb hbox hg) | ((with_reducible refine gate_dst (N := 2) rfl ?_); refine be_ (N := 2) (cs := #[.int .i64 0, .int .i64 0, .int .i64 0, .int .i64 0]) (t := 25) ?_; intro gb315 hg w5 hbox hb; have BK315 := Aside0.mk (hbox); have GW315 := ge_ HB hg; have GE315 := ge_ HB hg; obtain ⟨NB314_315, NB315_314⟩ := nq_ BK314 hg; replace BK314 := bb BK314 hb; replace HB := hs HB hb; clear hb hbox hg))
  replace BK314 := Aside0.mk (blk_drew BK314.out)
  replace BK315 := Aside0.mk (blk_drew BK315.out)
  replace HB := Aside0.mk (below_drew1 HB.out)
  refine start_ (n := 8) (S := fun w' => w'.cell? ⟨gb314, 0, none⟩ = some (.int .i64 a0_0) ∧ w'.cell? ⟨gb314, 1, none⟩ = some (.int .i64 a0_1) ∧ w'.cell? ⟨gb314, 2, none⟩ = some (.int .i64 a0_2) ∧ w'.cell? ⟨gb314, 3, none⟩ = some (.int .i64 a0_3)) (ds := []) #[false, false, false, false, false, false, false, false] (by kernel_rfl) rfl rfl ⟨(blk_cell BK314.out 0).trans rfl, (blk_cell BK314.out 1).trans rfl, (blk_cell BK314.out 2).trans rfl, (blk_cell BK314.out 3).trans rfl⟩ (fun hHeld => ?_); refine with_tabW spec_seMirror.tab1 spec_seMirror.bits1 (fun HT_ HW_ => ?_)
  generalize w5.drew = w6 at BK314 BK315 HB hHeld ⊢
  refine pu_ 0 (some 3) HT_.out ?_
  refine pu_ 3 (some 6) HT_.out ?_
  refine take_ (i := 1) (N := some 4) (v := ?_) (a' := ?_) #[true, true, false, true, false, false, false, false] rfl rfl (take_ofW HT_.out HW_.out (by kernel_rfl)) (fun _ _ _ h => h) (Or.inl ⟨by rfl, ?_⟩) hHeld ?_ ?_
  rotate_left
  ·
   rintro w' ⟨s0, s1, s2, s3⟩
   go_simp
   with_reducible rfl
  rotate_left
  ·
   simp only [Act.put, List.setIfInBounds_toArray, List.set_cons_zero, List.set_cons_succ, i64_w, i32_w]
   rfl
  refine take_ (i := 4) (N := some 7) (v := ?_) (a' := ?_) #[true, true, false, true, true, false, false, false] rfl rfl (take_ofW HT_.out HW_.out (by kernel_rfl)) (fun _ _ _ h => h) (Or.inl ⟨by rfl, ?_⟩) hHeld ?_ ?_
  rotate_left
  ·
   rintro w' ⟨s0, s1, s2, s3⟩
   go_simp
   with_reducible rfl
  rotate_left
  ·
   simp only [Act.put, List.setIfInBounds_toArray, List.set_cons_zero, List.set_cons_succ, i64_w, i32_w]
   rfl
  refine one_ (i := 2) (N := some 5) #[true, true, true, true, true, false, false, false] rfl rfl (one_of HT_.out (by kernel_rfl)) (by decide) (fun K hK => ?_)
  refine goes_ Try.func81 (by kernel_rfl) rfl #[.agg #[.int .i64 a0_0, .int .i64 a0_1]] (by rfl) rfl rfl (by (try simp only [List.map_toArray, List.map_cons, List.map_nil]); first | done | rfl | (simp only [List.length_drop, List.length_take]; rfl)) ?_
  with_reducible refine (spec_diMirror.calls k a0_0 a0_1 t316 t317 _ A2.out).mono ?_
  rintro e w7 ⟨rfl, hb⟩
  refine ⟨_, rfl, ?_⟩
  replace BK314 := bb BK314 hb
  replace BK315 := bb BK315 hb
  replace HB := hs HB hb
  (try clear hb)
  (try clear hb2)
  (try clear hk)
  (try clear hi)
  refine hK.out _ _ ⟨(blk_cell BK314.out 0).trans rfl, (blk_cell BK314.out 1).trans rfl, (blk_cell BK314.out 2).trans rfl, (blk_cell BK314.out 3).trans rfl⟩ (fun hHeld => ?_)
  clear hK K
  refine norm_ (a' := ?_) ?_ ?_
  rotate_left
  ·
   show Act.put _ (some 5) _ = _
   simp only [Act.put, List.setIfInBounds_toArray, List.set_cons_zero, List.set_cons_succ, i64_w, i32_w]
   rfl
  refine one_ (i := 5) (N := some 8) #[true, true, true, true, true, true, false, false] rfl rfl (one_of HT_.out (by kernel_rfl)) (by decide) (fun K hK => ?_)
  refine goes_ Try.func81 (by kernel_rfl) rfl #[.agg #[.int .i64 a0_2, .int .i64 a0_3]] (by rfl) rfl rfl (by (try simp only [List.map_toArray, List.map_cons, List.map_nil]); first | done | rfl | (simp only [List.length_drop, List.length_take]; rfl)) ?_
  with_reducible refine (spec_diMirror.calls k a0_2 a0_3 t318 t319 _ A3.out).mono ?_
  rintro e w8 ⟨rfl, hb⟩
  refine ⟨_, rfl, ?_⟩
  replace BK314 := bb BK314 hb
  replace BK315 := bb BK315 hb
  replace HB := hs HB hb
  (try clear hb)
  (try clear hb2)
  (try clear hk)
  (try clear hi)
  refine hK.out _ _ ⟨(blk_cell BK314.out 0).trans rfl, (blk_cell BK314.out 1).trans rfl, (blk_cell BK314.out 2).trans rfl, (blk_cell BK314.out 3).trans rfl⟩ (fun hHeld => ?_)
  clear hK K
  refine norm_ (a' := ?_) ?_ ?_
  rotate_left
  ·
   show Act.put _ (some 8) _ = _
   simp only [Act.put, List.setIfInBounds_toArray, List.set_cons_zero, List.set_cons_succ, i64_w, i32_w]
   rfl
  refine pu_ 6 (some 9) HT_.out ?_
  refine one_ (i := 7) (N := none) #[true, true, true, true, true, true, true, true] rfl rfl (one_of HT_.out (by kernel_rfl)) (by decide) (fun K hK => ?_)
  have hs9 : w8.cell? ⟨gb315, 0, none⟩ = some (.int .i64 0) := (blk_cell BK315.out 0).trans rfl
  have hfs9 := blk_frozen BK315.out 0
  obtain ⟨hns9_0, hms9_0⟩ := nn_ NB314_315
  have hs10 : w8.cell? ⟨gb315, 1, none⟩ = some (.int .i64 0) := (blk_cell BK315.out 1).trans rfl
  have hfs10 := blk_frozen BK315.out 1
  obtain ⟨hns10_0, hms10_0⟩ := nn_ NB314_315
  have hs11 : w8.cell? ⟨gb315, 2, none⟩ = some (.int .i64 0) := (blk_cell BK315.out 2).trans rfl
  have hfs11 := blk_frozen BK315.out 2
  obtain ⟨hns11_0, hms11_0⟩ := nn_ NB314_315
  have hs12 : w8.cell? ⟨gb315, 3, none⟩ = some (.int .i64 0) := (blk_cell BK315.out 3).trans rfl
  have hfs12 := blk_frozen BK315.out 3
  obtain ⟨hns12_0, hms12_0⟩ := nn_ NB314_315
  refine skip_ (w1 := ?_) (by rfl) rfl ?_ ?_
  rotate_left
  ·
   go_simp
   rfl
  refine hK.out _ _ ⟨((cell_far (p := ⟨gb315, _, none⟩) NB314_315.out _).trans (((cell_far (p := ⟨gb315, _, none⟩) NB314_315.out _).trans (((cell_far (p := ⟨gb315, _, none⟩) NB314_315.out _).trans (((cell_far (p := ⟨gb315, _, none⟩) NB314_315.out _).trans (hHeld.1)))))))), ((cell_far (p := ⟨gb315, _, none⟩) NB314_315.out _).trans (((cell_far (p := ⟨gb315, _, none⟩) NB314_315.out _).trans (((cell_far (p := ⟨gb315, _, none⟩) NB314_315.out _).trans (((cell_far (p := ⟨gb315, _, none⟩) NB314_315.out _).trans (hHeld.2.1)))))))), ((cell_far (p := ⟨gb315, _, none⟩) NB314_315.out _).trans (((cell_far (p := ⟨gb315, _, none⟩) NB314_315.out _).trans (((cell_far (p := ⟨gb315, _, none⟩) NB314_315.out _).trans (((cell_far (p := ⟨gb315, _, none⟩) NB314_315.out _).trans (hHeld.2.2.1)))))))), ((cell_far (p := ⟨gb315, _, none⟩) NB314_315.out _).trans (((cell_far (p := ⟨gb315, _, none⟩) NB314_315.out _).trans (((cell_far (p := ⟨gb315, _, none⟩) NB314_315.out _).trans (((cell_far (p := ⟨gb315, _, none⟩) NB314_315.out _).trans (hHeld.2.2.2))))))))⟩ (fun hHeld => ?_)
  clear hK K
  refine done_ (done_of HT_.out (by kernel_rfl)) ?_
  try go_wp2
  refine bodyPost_ret (results_cell_row rfl _ _ gb315 25 #[.int .i64 t316, .int .i64 t317, .int .i64 t318, .int .i64 t319] (0, 0) _ rfl (by (with_reducible repeat (first | refine blk_drewN ?_ _ | refine blk_drew ?_ | refine blk_alloc ?_ _)); refine blk_put (cs := #[.int .i64 t316, .int .i64 t317, .int .i64 t318, .int .i64 0]) ?_ 3 _ rfl; (with_reducible repeat (first | refine blk_drewN ?_ _ | refine blk_drew ?_ | refine blk_alloc ?_ _)); refine blk_put (cs := #[.int .i64 t316, .int .i64 t317, .int .i64 0, .int .i64 0]) ?_ 2 _ rfl; (with_reducible repeat (first | refine blk_drewN ?_ _ | refine blk_drew ?_ | refine blk_alloc ?_ _)); refine blk_put (cs := #[.int .i64 t316, .int .i64 0, .int .i64 0, .int .i64 0]) ?_ 1 _ rfl; (with_reducible repeat (first | refine blk_drewN ?_ _ | refine blk_drew ?_ | refine blk_alloc ?_ _)); refine blk_put (cs := #[.int .i64 0, .int .i64 0, .int .i64 0, .int .i64 0]) ?_ 0 _ rfl; (with_reducible repeat (first | refine blk_drewN ?_ _ | refine blk_drew ?_ | refine blk_alloc ?_ _)); exact BK315.out) Try.underlying25 rfl (by kernel_rfl)) rfl ?_
  exact ⟨by first | rfl | (simp [errW_none, errW_some] <;> rfl) | (simp [*, errW_none, errW_some] <;> rfl), (ho_ HB)⟩

end Go.Proofs.Ytkfcaldjepmffaa.GFnSeenTrueOfAll
