-- Written by a program of this session (a copy of the kit's print program that takes contracts of one's own); Lean checks it.
import Derived.Test.YtofjjfaaadllmaaGFnExactNearestPairx0
import Derived.Test.YtofjjfaaadllmaaGFnExactNearestPairx1
namespace Go.Proofs.Ytofjjfaaadllmaa.GFnExactNearestPair
open Go.RowKit Go.Proofs.YtofjjfaaadllmaaW.PrintWords Go.Proofs.YtofjjfaaadllmaaW.PrintLast Go.Proofs.YtofjjfaaadllmaaW.PrintMore
attribute [local go_sem] max2_int min2_int max_two min_two max_three min_three max_four min_four IntWalk.i64_left   -- for this text's walks alone
set_option linter.unusedVariables false
set_option linter.unusedSimpArgs false

/-! ### impl_NearestPair: function 10 -/
def offW (nm dn d f : Int) : Int := let x := wrap64 (wrap64 (d * dn) - wrap64 (nm * f)); mx x (wrap64 (-x))
set_option maxHeartbeats 8000000 in
set_option maxRecDepth 100000 in
theorem near_off (d f dn nm : Int) (bd bn : Nat) (w : World) (hd : w.heap[bd]? = some (.cells #[.int .i64 dn] 3 (0, 0))) (hn : w.heap[bn]? = some (.cells #[.int .i64 nm] 3 (0, 0))) :
    Calls Try.prog 36 #[.agg #[.int .i64 d, .int .i64 f], .pointer (some ⟨bd, 0, none⟩), .pointer (some ⟨bn, 0, none⟩)] w fun e w' => e = .returned (.int .i64 (offW nm dn d f)) ∧ Below w.heap.size w w' := by
  have hu23 := Try.underlying23
  have HB := Aside0.mk (Below.refl w.heap.size w)
  have BKD := Aside0.mk hd
  have BKN := Aside0.mk hn
  clear hd hn
  go_enter Try.func36, Try.ntmps36
  go_wp2_with (first | ((with_reducible refine gate_dst (N := 3) rfl ?_); refine box_event ?hg (N := 3) ?hd (cs := #[.int .i64 d, .int .i64 f]) (t := 23) ?hr ?_; (case hd => rfl); (case hg => rfl); (case hr => first | (go_simp; done) | (go_simp; rfl)); intro g hg w5 hbox hb; have n0_ := Aside0.mk (below_step HB.out hb); have n1_ := Aside0.mk (hbox); have n2_ := Aside0.mk (blk_below BKD.out hb); have n3_ := Aside0.mk (blk_below BKN.out hb); clear HB BKD BKN; have HB := n0_; have BKP := n1_; have BKD := n2_; have BKN := n3_; clear n0_ n1_ n2_ n3_; clear hb hbox hg; have hcp0 : w5.cell? ⟨g, 0, none⟩ = some (.int .i64 d) := (blk_cell BKP.out 0).trans rfl; have hcp1 : w5.cell? ⟨g, 1, none⟩ = some (.int .i64 f) := (blk_cell BKP.out 1).trans rfl; have hcd : w5.cell? ⟨bd, 0, none⟩ = some (.int .i64 dn) := (blk_cell BKD.out 0).trans rfl; have hcn : w5.cell? ⟨bn, 0, none⟩ = some (.int .i64 nm) := (blk_cell BKN.out 0).trans rfl))
  all_goals go_ret
  all_goals refine ⟨?_, HB.out⟩
  · simp only [offW, mx]
    rw [if_pos h]
    rfl
  · simp only [offW, mx]
    rw [if_neg (by omega)]
    rfl
def cmpI (a b : Int) : Int := if a < b then -1 else if b < a then 1 else 0
theorem cmpI_eq (a b : Int) : cmp_Compare_int.f a b = some (cmpI a b) := by
  unfold cmp_Compare_int.f cmp_isNaN_int.f cmpI
  by_cases h : a < b
  · simp [h]
  · by_cases g : b < a
    · simp [h, g]
    · simp [h, g]
def NearI (W0 : World) (bb bo bd bn : Nat) (nm dn b0 b1 : Int) (w : World) : Prop :=
  w.heap[bb]? = some (.cells #[.int .i64 b0, .int .i64 b1] 23 (0, 0)) ∧ w.heap[bo]? = some (.cells #[.func (.func 36) #[] #[.pointer (some ⟨bd, 0, none⟩), .pointer (some ⟨bn, 0, none⟩)]] 46 (0, 0)) ∧
  w.heap[bd]? = some (.cells #[.int .i64 dn] 3 (0, 0)) ∧ w.heap[bn]? = some (.cells #[.int .i64 nm] 3 (0, 0)) ∧ W0.heap.size ≤ bb ∧ Below W0.heap.size W0 w
set_option maxHeartbeats 8000000 in
set_option maxRecDepth 100000 in
theorem near_first (W0 : World) (d f nm dn b1 : Int) (bb bo bd bn : Nat) (w : World) (h : NearI W0 bb bo bd bn nm dn 0 b1 w) :
    Calls Try.prog 38 #[.agg #[.int .i64 d, .int .i64 f], .pointer (some ⟨bb, 0, none⟩), .pointer (some ⟨bo, 0, none⟩)] w fun e w' => e = .returned (.tuple #[]) ∧ NearI W0 bb bo bd bn nm dn d f w' := by
  have hu23 := Try.underlying23
  have NO := Aside0.mk (blk_ne h.1 h.2.1 (by decide))
  have ND := Aside0.mk (blk_ne h.1 h.2.2.1 (by decide))
  have NN := Aside0.mk (blk_ne h.1 h.2.2.2.1 (by decide))
  obtain ⟨hb, ho, hd, hn, hge, hB⟩ := h
  have HB := Aside0.mk hB
  have GE := Aside0.mk hge
  have BKB := Aside0.mk hb
  have BKO := Aside0.mk ho
  have BKD := Aside0.mk hd
  have BKN := Aside0.mk hn
  clear hb ho hd hn hge hB
  go_enter Try.func38, Try.ntmps38
  go_wp2_with (first | ((with_reducible refine gate_dst (N := 3) rfl ?_); refine box_event ?hg (N := 3) ?hd (cs := #[.int .i64 d, .int .i64 f]) (t := 23) ?hr ?_; (case hd => rfl); (case hg => rfl); (case hr => first | (go_simp; done) | (go_simp; rfl)); intro g hg w5 hbox hb; have NBP := Aside0.mk ((by rw [hg]; exact Nat.ne_of_lt (blk_lt BKB.out)) : bb ≠ g); have n0_ := Aside0.mk (below_step HB.out hb); have n1_ := Aside0.mk (hbox); have n2_ := Aside0.mk (blk_below BKB.out hb); have n3_ := Aside0.mk (blk_below BKO.out hb); have n4_ := Aside0.mk (blk_below BKD.out hb); have n5_ := Aside0.mk (blk_below BKN.out hb); clear HB BKB BKO BKD BKN; have HB := n0_; have BKP := n1_; have BKB := n2_; have BKO := n3_; have BKD := n4_; have BKN := n5_; clear n0_ n1_ n2_ n3_ n4_ n5_; clear hb hbox hg; have hcp0 : w5.cell? ⟨g, 0, none⟩ = some (.int .i64 d) := (blk_cell BKP.out 0).trans rfl; have hcp1 : w5.cell? ⟨g, 1, none⟩ = some (.int .i64 f) := (blk_cell BKP.out 1).trans rfl; have hcb0 : w5.cell? ⟨bb, 0, none⟩ = some (.int .i64 0) := (blk_cell BKB.out 0).trans rfl; have hcb1 : w5.cell? ⟨bb, 1, none⟩ = some (.int .i64 b1) := (blk_cell BKB.out 1).trans rfl; have hfb0 := blk_frozen BKB.out 0; have hfb1 := blk_frozen BKB.out 1))
  refine bodyPost_ret (results_none rfl _ _ _) rfl ⟨rfl, ?_⟩
  exact ⟨blk_put (blk_put BKB.out 0 _ rfl) 1 _ rfl, blk_far (blk_far BKO.out NO.out.symm _) NO.out.symm _, blk_far (blk_far BKD.out ND.out.symm _) ND.out.symm _, blk_far (blk_far BKN.out NN.out.symm _) NN.out.symm _, GE.out, below_set (below_set HB.out GE.out) GE.out⟩
def orI (a b : Int) : Int := if a = 0 then b else a
def ordN (nm dn b0 b1 d f : Int) : Int := orI (cmpI (wrap64 (offW nm dn d f * b1)) (wrap64 (offW nm dn b0 b1 * f))) (cmpI (wrap64 (d + f)) (wrap64 (b0 + b1)))
theorem below_drawn0_ {w w' : World} (h : Drawn0 w w') : Below w.heap.size w w' := by
  obtain ⟨n, rfl⟩ := h
  exact pw_below_drewN (Below.refl _ _) n

structure NpC (W0 : World) (bb bo bd bn g : Nat) (nm dn b0 b1 d f : Int) where
  w : World
  hb : w.heap[bb]? = some (.cells #[.int .i64 b0, .int .i64 b1] 23 (0, 0))
  ho : w.heap[bo]? = some (.cells #[.func (.func 36) #[] #[.pointer (some ⟨bd, 0, none⟩), .pointer (some ⟨bn, 0, none⟩)]] 46 (0, 0))
  hd : w.heap[bd]? = some (.cells #[.int .i64 dn] 3 (0, 0))
  hn : w.heap[bn]? = some (.cells #[.int .i64 nm] 3 (0, 0))
  hg : w.heap[g]? = some (.cells #[.int .i64 d, .int .i64 f] 23 (0, 0))
  hB : Below W0.heap.size W0 w
section
variable {W0 : World} {bb bo bd bn g : Nat} {nm dn b0 b1 d f : Int}
def NpC.step (p : NpC W0 bb bo bd bn g nm dn b0 b1 d f) {w : World} (hb : Below p.w.heap.size p.w w) : NpC W0 bb bo bd bn g nm dn b0 b1 d f :=
  ⟨w, blk_below p.hb hb, blk_below p.ho hb, blk_below p.hd hb, blk_below p.hn hb, blk_below p.hg hb, below_step p.hB hb⟩
theorem NpC.cB0 (p : NpC W0 bb bo bd bn g nm dn b0 b1 d f) : p.w.cell? ⟨bb, 0, none⟩ = some (.int .i64 b0) := (blk_cell p.hb 0).trans rfl
theorem NpC.cB1 (p : NpC W0 bb bo bd bn g nm dn b0 b1 d f) : p.w.cell? ⟨bb, 1, none⟩ = some (.int .i64 b1) := (blk_cell p.hb 1).trans rfl
theorem NpC.cO (p : NpC W0 bb bo bd bn g nm dn b0 b1 d f) : p.w.cell? ⟨bo, 0, none⟩ = some (.func (.func 36) #[] #[.pointer (some ⟨bd, 0, none⟩), .pointer (some ⟨bn, 0, none⟩)]) := (blk_cell p.ho 0).trans rfl
theorem NpC.cG0 (p : NpC W0 bb bo bd bn g nm dn b0 b1 d f) : p.w.cell? ⟨g, 0, none⟩ = some (.int .i64 d) := (blk_cell p.hg 0).trans rfl
theorem NpC.cG1 (p : NpC W0 bb bo bd bn g nm dn b0 b1 d f) : p.w.cell? ⟨g, 1, none⟩ = some (.int .i64 f) := (blk_cell p.hg 1).trans rfl
theorem NpC.off (p : NpC W0 bb bo bd bn g nm dn b0 b1 d f) (x y : Int) : Calls Try.prog 36 #[.agg #[.int .i64 x, .int .i64 y], .pointer (some ⟨bd, 0, none⟩), .pointer (some ⟨bn, 0, none⟩)] p.w fun e w' => e = .returned (.int .i64 (offW nm dn x y)) ∧ ∃ q : NpC W0 bb bo bd bn g nm dn b0 b1 d f, w' = q.w :=
  (near_off x y dn nm bd bn p.w p.hd p.hn).mono fun _ _ ⟨he, hb⟩ => ⟨he, p.step hb, rfl⟩
theorem NpC.cmp (p : NpC W0 bb bo bd bn g nm dn b0 b1 d f) (x y : Int) : Calls Try.prog 40 #[.int .i64 x, .int .i64 y] p.w fun e w' => e = .returned (.int .i64 (cmpI x y)) ∧ ∃ q : NpC W0 bb bo bd bn g nm dn b0 b1 d f, w' = q.w :=
  (cmp_Compare_int.calls x y (cmpI x y) p.w (cmpI_eq x y)).mono fun _ _ ⟨he, hb⟩ => ⟨he, p.step (below_drawn0_ hb), rfl⟩
end

theorem NpC.store {W0 : World} {bb bo bd bn g : Nat} {nm dn b0 b1 d f : Int} (p : NpC W0 bb bo bd bn g nm dn b0 b1 d f) (ge : W0.heap.size ≤ bb) : NearI W0 bb bo bd bn nm dn d f ((p.w.setCell ⟨bb, 0, none⟩ (.int .i64 d)).setCell ⟨bb, 1, none⟩ (.int .i64 f)) :=
  have no := blk_ne p.hb p.ho (by decide)
  have nd := blk_ne p.hb p.hd (by decide)
  have nn := blk_ne p.hb p.hn (by decide)
  ⟨blk_put (blk_put p.hb 0 _ rfl) 1 _ rfl, blk_far (blk_far p.ho no.symm _) no.symm _, blk_far (blk_far p.hd nd.symm _) nd.symm _, blk_far (blk_far p.hn nn.symm _) nn.symm _, ge, below_set (below_set p.hB ge) ge⟩
theorem NpC.skip {W0 : World} {bb bo bd bn g : Nat} {nm dn b0 b1 d f : Int} (p : NpC W0 bb bo bd bn g nm dn b0 b1 d f) (ge : W0.heap.size ≤ bb) : NearI W0 bb bo bd bn nm dn b0 b1 p.w := ⟨p.hb, p.ho, p.hd, p.hn, ge, p.hB⟩
theorem or_eq (a b : Int) : cmp_Or_int.f 3 [a, b] = some (orI a b) := by
  unfold cmp_Or_int.f orI
  have w1 : wrap64 1 = 1 := by unfold wrap64; omega
  have w2 : wrap64 2 = 2 := by unfold wrap64; omega
  by_cases ha : a = 0
  · by_cases hb : b = 0
    · simp [cmp_Or_int.l0, rd, rdOf, ha, hb, w1, w2]
    · simp [cmp_Or_int.l0, rd, rdOf, ha, hb, w1, w2]
  · simp [cmp_Or_int.l0, rd, rdOf, ha]
set_option maxHeartbeats 8000000 in
set_option maxRecDepth 100000 in
theorem near_next (W0 : World) (d f nm dn b0 b1 n0 n1 : Int) (bb bo bd bn : Nat) (w : World) (hne : b0 ≠ 0) (h : NearI W0 bb bo bd bn nm dn b0 b1 w)
    (hc : if ordN nm dn b0 b1 d f < 0 then n0 = d ∧ n1 = f else n0 = b0 ∧ n1 = b1) :
    Calls Try.prog 38 #[.agg #[.int .i64 d, .int .i64 f], .pointer (some ⟨bb, 0, none⟩), .pointer (some ⟨bo, 0, none⟩)] w fun e w' => e = .returned (.tuple #[]) ∧ NearI W0 bb bo bd bn nm dn n0 n1 w' := by
  have hu23 := Try.underlying23
  have NO := Aside0.mk (blk_ne h.1 h.2.1 (by decide))
  have ND := Aside0.mk (blk_ne h.1 h.2.2.1 (by decide))
  have NN := Aside0.mk (blk_ne h.1 h.2.2.2.1 (by decide))
  obtain ⟨hb, ho, hd, hn, hge, hB⟩ := h
  have HB := Aside0.mk hB
  have GE := Aside0.mk hge
  have BKB := Aside0.mk hb
  have BKO := Aside0.mk ho
  have BKD := Aside0.mk hd
  have BKN := Aside0.mk hn
  have HC := Aside0.mk hc
  have z0 : (b0 == 0) = false := beq_eq_false_iff_ne.2 hne
  clear hb ho hd hn hge hB hc hne
  go_enter Try.func38, Try.ntmps38
  go_wp2_with (first | ((with_reducible refine gate_dst (N := 3) rfl ?_); refine box_event ?hg (N := 3) ?hd (cs := #[.int .i64 d, .int .i64 f]) (t := 23) ?hr ?_; (case hd => rfl); (case hg => rfl); (case hr => first | (go_simp; done) | (go_simp; rfl)); intro g hg w5 hbox hb; have NBP := Aside0.mk ((by rw [hg]; exact Nat.ne_of_lt (blk_lt BKB.out)) : bb ≠ g); have n0_ := Aside0.mk (below_step HB.out hb); have n1_ := Aside0.mk (hbox); have n2_ := Aside0.mk (blk_below BKB.out hb); have n3_ := Aside0.mk (blk_below BKO.out hb); have n4_ := Aside0.mk (blk_below BKD.out hb); have n5_ := Aside0.mk (blk_below BKN.out hb); clear HB BKB BKO BKD BKN; have HB := n0_; have BKP := n1_; have BKB := n2_; have BKO := n3_; have BKD := n4_; have BKN := n5_; clear n0_ n1_ n2_ n3_ n4_ n5_; clear hb hbox hg; have hcp0 : w5.cell? ⟨g, 0, none⟩ = some (.int .i64 d) := (blk_cell BKP.out 0).trans rfl; have hcp1 : w5.cell? ⟨g, 1, none⟩ = some (.int .i64 f) := (blk_cell BKP.out 1).trans rfl; have hcb0 : w5.cell? ⟨bb, 0, none⟩ = some (.int .i64 b0) := (blk_cell BKB.out 0).trans rfl; have hcb1 : w5.cell? ⟨bb, 1, none⟩ = some (.int .i64 b1) := (blk_cell BKB.out 1).trans rfl; have hfb0 := blk_frozen BKB.out 0; have hfb1 := blk_frozen BKB.out 1; have hco : w5.cell? ⟨bo, 0, none⟩ = some (.func (.func 36) #[] #[.pointer (some ⟨bd, 0, none⟩), .pointer (some ⟨bn, 0, none⟩)]) := (blk_cell BKO.out 0).trans rfl))
  try clear hcp0
  try clear hcp1
  try clear hcb0
  try clear hcb1
  try clear hfb0
  try clear hfb1
  try clear hco

  haveI ne_ : Nonempty (NpC W0 bb bo bd bn g nm dn b0 b1 d f) := ⟨⟨w5, BKB.out, BKO.out, BKD.out, BKN.out, BKP.out, HB.out⟩⟩
  have cB0 := fun p : NpC W0 bb bo bd bn g nm dn b0 b1 d f => p.cB0
  have cB1 := fun p : NpC W0 bb bo bd bn g nm dn b0 b1 d f => p.cB1
  have cO := fun p : NpC W0 bb bo bd bn g nm dn b0 b1 d f => p.cO
  have cG0 := fun p : NpC W0 bb bo bd bn g nm dn b0 b1 d f => p.cG0
  have cG1 := fun p : NpC W0 bb bo bd bn g nm dn b0 b1 d f => p.cG1
  have tO : Aside0 (∀ (p : NpC W0 bb bo bd bn g nm dn b0 b1 d f) (x y : Int), _) := ⟨fun p x y => p.off x y⟩
  have tC : Aside0 (∀ (p : NpC W0 bb bo bd bn g nm dn b0 b1 d f) (x y : Int), _) := ⟨fun p x y => p.cmp x y⟩
  refine Lib.wp_region_quiet_tail (fun w' => ∃ p : NpC W0 bb bo bd bn g nm dn b0 b1 d f, w' = p.w) 24 (by kernel_rfl) (by kernel_rfl) ⟨NpC.step (⟨w5, BKB.out, BKO.out, BKD.out, BKN.out, BKP.out, HB.out⟩ : NpC W0 bb bo bd bn g nm dn b0 b1 d f) (below_drew (Below.refl _ _)), rfl⟩ ?_
  simp only [List.take_succ_cons, List.take_zero, List.drop_succ_cons, List.drop_zero]
  repeat (go_big_quiet_step (first | (with_reducible exact tO.out _ _ _) | (with_reducible exact tC.out _ _ _)))
  refine wpQuiet_nil ?_
  intro _ hw'
  obtain ⟨p, rfl⟩ := hw'
  clear cB0 cB1 cO cG0 cG1 ne_
  have HC1 := HC.out
  unfold ordN at HC1
  clear HC
  generalize cmpI (wrap64 (offW nm dn d f * b1)) (wrap64 (offW nm dn b0 b1 * f)) = c1 at HC1 ⊢
  generalize cmpI (wrap64 (d + f)) (wrap64 (b0 + b1)) = c2 at HC1 ⊢
  by_cases z : orI c1 c2 < 0
  · rw [if_pos z] at HC1
    obtain ⟨e0_, e1_⟩ := HC1
    replace e0_ := e0_.symm
    replace e1_ := e1_.symm
    subst e0_ e1_
    have zb : decide (orI c1 c2 < 0) = true := decide_eq_true z
    clear z
    go_wp2_with (first | ((with_reducible refine gate_dst (N := 32) rfl ?_); (refine Kd.R_lit (Kd.int .i64) _ 3 ?hg (N := 32) ?hd (xs := ([c1, c2] : List Int)) (inner := [.int .i64 c1, .int .i64 c2]) (ok := fun _ => True) (okp := fun _ => True) ?hr ?hp (fun _ hk => hk) trivial (Below.refl _ _) (Nat.le_refl _) (by simp) ?_; (case hd => rfl); (case hg => rfl); (case hr => first | (go_simp; done) | (go_simp; rfl)); (case hp => exact Kd.reps_scalar (enc := Value.int .i64) [c1, c2]); intro v8 w8 ho hb hg_ hnew_; clear hg_ hnew_; obtain ⟨A8, c8, rfl, hc8, hC8⟩ := Kd.R_reads ho; have HC8 := Aside0.mk hC8; have HL8 := Aside0.mk hc8; have HQ := Aside0.mk hb; clear ho hC8 hc8 hb; have q0 : w8.cell? ⟨g, 0, none⟩ = some (.int .i64 d) := (p.step HQ.out).cG0; have q1 : w8.cell? ⟨g, 1, none⟩ = some (.int .i64 f) := (p.step HQ.out).cG1; have q2 : w8.cell? ⟨bb, 0, none⟩ = some (.int .i64 b0) := (p.step HQ.out).cB0; have q3 : w8.cell? ⟨bb, 1, none⟩ = some (.int .i64 b1) := (p.step HQ.out).cB1; have f0 : w8.frozen? ⟨bb, 0, none⟩ = false := blk_frozen (p.step HQ.out).hb 0; have f1 : w8.frozen? ⟨bb, 1, none⟩ = false := blk_frozen (p.step HQ.out).hb 1)) | (go_at_call 39; (refine (cmp_Or_int.calls 3 A8 c8 [c1, c2] (orI c1 c2) _ HC8.out HL8.out (or_eq c1 c2)).mono ?_); rintro e w9 ⟨rfl, ⟨nd, rfl⟩⟩))
    go_end0
    exact ⟨rfl, NpC.store (NpC.step (p.step HQ.out) (pw_below_drewN (Below.refl _ _) nd)) GE.out⟩
  · rw [if_neg z] at HC1
    obtain ⟨e0_, e1_⟩ := HC1
    replace e0_ := e0_.symm
    replace e1_ := e1_.symm
    subst e0_ e1_
    have zb : decide (orI c1 c2 < 0) = false := decide_eq_false z
    clear z
    go_wp2_with (first | ((with_reducible refine gate_dst (N := 32) rfl ?_); (refine Kd.R_lit (Kd.int .i64) _ 3 ?hg (N := 32) ?hd (xs := ([c1, c2] : List Int)) (inner := [.int .i64 c1, .int .i64 c2]) (ok := fun _ => True) (okp := fun _ => True) ?hr ?hp (fun _ hk => hk) trivial (Below.refl _ _) (Nat.le_refl _) (by simp) ?_; (case hd => rfl); (case hg => rfl); (case hr => first | (go_simp; done) | (go_simp; rfl)); (case hp => exact Kd.reps_scalar (enc := Value.int .i64) [c1, c2]); intro v8 w8 ho hb hg_ hnew_; clear hg_ hnew_; obtain ⟨A8, c8, rfl, hc8, hC8⟩ := Kd.R_reads ho; have HC8 := Aside0.mk hC8; have HL8 := Aside0.mk hc8; have HQ := Aside0.mk hb; clear ho hC8 hc8 hb; have q0 : w8.cell? ⟨g, 0, none⟩ = some (.int .i64 d) := (p.step HQ.out).cG0; have q1 : w8.cell? ⟨g, 1, none⟩ = some (.int .i64 f) := (p.step HQ.out).cG1; have q2 : w8.cell? ⟨bb, 0, none⟩ = some (.int .i64 b0) := (p.step HQ.out).cB0; have q3 : w8.cell? ⟨bb, 1, none⟩ = some (.int .i64 b1) := (p.step HQ.out).cB1; have f0 : w8.frozen? ⟨bb, 0, none⟩ = false := blk_frozen (p.step HQ.out).hb 0; have f1 : w8.frozen? ⟨bb, 1, none⟩ = false := blk_frozen (p.step HQ.out).hb 1)) | (go_at_call 39; (refine (cmp_Or_int.calls 3 A8 c8 [c1, c2] (orI c1 c2) _ HC8.out HL8.out (or_eq c1 c2)).mono ?_); rintro e w9 ⟨rfl, ⟨nd, rfl⟩⟩))
    go_end0
    exact ⟨rfl, NpC.skip (NpC.step (p.step HQ.out) (pw_below_drewN (Below.refl _ _) nd)) GE.out⟩

def nrN (nm dn d f b0 b1 : Int) : Int × Int := if b0 = 0 then (d, f) else if ordN nm dn b0 b1 d f < 0 then (d, f) else (b0, b1)
theorem near_visit (W0 : World) (d f nm dn b0 b1 : Int) (bb bo bd bn : Nat) (w : World) (h : NearI W0 bb bo bd bn nm dn b0 b1 w) :
    Calls Try.prog 38 #[.agg #[.int .i64 d, .int .i64 f], .pointer (some ⟨bb, 0, none⟩), .pointer (some ⟨bo, 0, none⟩)] w fun e w' => e = .returned (.tuple #[]) ∧ NearI W0 bb bo bd bn nm dn (nrN nm dn d f b0 b1).1 (nrN nm dn d f b0 b1).2 w' := by
  by_cases z : b0 = 0
  · subst z
    rw [nrN, if_pos rfl]
    exact near_first W0 d f nm dn b1 bb bo bd bn w h
  · refine near_next W0 d f nm dn b0 b1 _ _ bb bo bd bn w z h ?_
    rw [nrN, if_neg z]
    by_cases y : ordN nm dn b0 b1 d f < 0
    · rw [if_pos y, if_pos y]
      exact ⟨rfl, rfl⟩
    · rw [if_neg y, if_neg y]
      exact ⟨rfl, rfl⟩
def nrF (nm dn m : Int) : Nat → Int → Int → Int → Int → Option (Int × Int)
  | 0, _, _, _, _ => none
  | g + 1, d, f, b0, b1 => if d ≤ m then (if f ≤ m then nrF nm dn m g d (f + 1) (nrN nm dn d f b0 b1).1 (nrN nm dn d f b0 b1).2 else nrF nm dn m g (d + 1) 6 b0 b1) else some (b0, b1)
theorem nrF_mono (nm dn m : Int) : ∀ g d f b0 b1, LeO (nrF nm dn m g d f b0 b1) (nrF nm dn m (g + 1) d f b0 b1)
  | 0, _, _, _, _ => fun r h => by simp [nrF] at h
  | g + 1, d, f, b0, b1 => by
    rw [nrF, nrF]
    exact LeO.ite (LeO.ite (nrF_mono nm dn m g _ _ _ _) (nrF_mono nm dn m g _ _ _ _)) (LeO.refl _)
def ntF (k : Nat) (a0 a1 a2 : Int) : Option (Int × Int × Bool) :=
  (impl_areRatio.f a0 a1 a2).bind fun t => if t = true then (nrF a0 a1 a2 k 6 6 0 0).bind fun o => some (o.1, o.2, true) else some (0, 0, false)
theorem nr_range {a0 a1 a2 : Int} (h : impl_areRatio.f a0 a1 a2 = some true) : 6 ≤ a2 ∧ a2 ≤ 120 := by
  unfold impl_areRatio.f impl_areTeeth.f impl_within.f at h
  by_cases h1 : a0 ≥ 1 <;> by_cases h2 : a1 ≥ 1 <;> by_cases h3 : a0 ≤ 1000 <;> by_cases h4 : a1 ≤ 1000 <;> by_cases h5 : a2 ≥ 6 <;> by_cases h6 : a2 ≤ 120 <;> simp_all
set_option maxHeartbeats 8000000 in
set_option maxRecDepth 100000 in
theorem each_near (q0 q1 : Option Addr) (m : Int) (hm : 5 ≤ m) (hm' : m ≤ 1000) (I : Int → Int → World → Prop)
    (hstep : ∀ d f w, 6 ≤ d → d ≤ m → 6 ≤ f → f ≤ m → I d f w → Calls Try.prog 38 #[.agg #[.int .i64 d, .int .i64 f], .pointer q0, .pointer q1] w fun e w' => e = .returned (.tuple #[]) ∧ I d (f + 1) w')
    (hnext : ∀ d w, I d (m + 1) w → I (d + 1) 6 w) (w : World) (h0 : I 6 6 w) :
    Calls Try.prog 37 #[.int .i64 m, .func (.func 38) #[] #[.pointer q0, .pointer q1]] w fun e w' => e = .returned (.tuple #[]) ∧ I (m + 1) 6 w' := by
  have HM := Aside0.mk (And.intro hm hm')
  clear hm hm'
  have HS := Aside0.mk hstep
  have HN := Aside0.mk hnext
  have H0 := Aside0.mk h0
  clear hstep hnext h0
  go_enter Try.func37, Try.ntmps37
  go_wp2
  go_loopg [4] m.toNat (fun gk v4 w' => ∃ (d : Int), v4 = .int .i64 d ∧ Aside0 (6 ≤ d ∧ d ≤ m + 1 ∧ d + gk = m + 6) ∧ Aside0 (I d 6 w'))
  case atStart => exact ⟨6, rfl, ⟨by have := HM.out; omega⟩, H0⟩
  case round =>
    obtain ⟨d, rfl, HD, HI⟩ := hrel
    by_cases hlt : d ≤ m
    · obtain ⟨k1, rfl⟩ : ∃ k1, gk = k1 + 1 := ⟨gk - 1, by have := HD.out; omega⟩
      have c1 : decide (d ≤ m) = true := decide_eq_true hlt
      have HL := Aside0.mk hlt
      clear hlt
      go_wp2
      go_loopg [5] m.toNat (fun gk v5 w' => ∃ (f : Int), v5 = .int .i64 f ∧ Aside0 (6 ≤ f ∧ f ≤ m + 1 ∧ f + gk = m + 6) ∧ Aside0 (I d f w'))
      case atStart => exact ⟨6, rfl, ⟨by have := HM.out; have := HL.out; have := HD.out; omega⟩, HI⟩
      case round =>
        try clear c1
        obtain ⟨f, rfl, HF, HI⟩ := hrel
        by_cases hlf : f ≤ m
        · obtain ⟨k2, rfl⟩ : ∃ k2, gk = k2 + 1 := ⟨gk - 1, by have := HF.out; omega⟩
          have c2 : decide (f ≤ m) = true := decide_eq_true hlf
          have HLF := Aside0.mk hlf
          clear hlf
          go_wp2_with (first | (go_at_call 38; (refine (HS.out d f _ ?ha ?hb ?hc ?hd HI.out).mono ?_); (case ha => have := HD.out; omega); (case hb => exact HL.out); (case hc => have := HF.out; omega); (case hd => exact HLF.out); rintro e w1 ⟨rfl, hi⟩; have HI1 := Aside0.mk hi; clear hi))
          go_roundg k2
          case measure => omega
          case rel =>
            refine ⟨f + 1, ?_, ⟨by have := HF.out; have := HLF.out; omega⟩, HI1⟩
            have := HF.out
            have := HLF.out
            have := HM.out
            rw [IntWalk.wrap64_in (f + 1) ⟨by omega, by omega⟩]
        · have c2 : decide (f ≤ m) = false := decide_eq_false hlf
          have HLF := Aside0.mk hlf
          clear hlf
          go_wp2
          go_roundg k1
          case measure => omega
          case rel =>
            refine ⟨d + 1, ?_, ⟨by have := HD.out; have := HL.out; have := HM.out; omega⟩, ⟨HN.out d _ ?_⟩⟩
            · have := HD.out
              have := HL.out
              have := HM.out
              rw [IntWalk.wrap64_in (d + 1) ⟨by omega, by omega⟩]
            · have e : f = m + 1 := by
                have := HF.out
                have := HLF.out
                omega
              rw [← e]
              exact HI.out
    · have c1 : decide (d ≤ m) = false := decide_eq_false hlt
      have HL := Aside0.mk hlt
      clear hlt
      go_wp2
      go_end0
      refine ⟨rfl, ?_⟩
      have e : d = m + 1 := by
        have := HD.out
        have := HL.out
        omega
      rw [← e]
      exact HI.out

theorem near_each (k : Nat) (W0 : World) (nm dn m : Int) (bb bo bd bn : Nat) (r0 r1 : Int) (hm : 5 ≤ m) (hm' : m ≤ 1000) (w : World) (h : NearI W0 bb bo bd bn nm dn 0 0 w) (hr : nrF nm dn m k 6 6 0 0 = some (r0, r1)) :
    Calls Try.prog 37 #[.int .i64 m, .func (.func 38) #[] #[.pointer (some ⟨bb, 0, none⟩), .pointer (some ⟨bo, 0, none⟩)]] w fun e w' => e = .returned (.tuple #[]) ∧ NearI W0 bb bo bd bn nm dn r0 r1 w' := by
  refine (each_near _ _ m hm hm' (fun d f w => ∃ g b0 b1, nrF nm dn m g d f b0 b1 = some (r0, r1) ∧ NearI W0 bb bo bd bn nm dn b0 b1 w) ?_ ?_ w ⟨k, 0, 0, hr, h⟩).mono ?_
  · rintro d f w h1 h2 h3 h4 ⟨g, b0, b1, hg, hI⟩
    cases g with
    | zero => simp [nrF] at hg
    | succ g =>
      simp only [nrF, if_pos h2, if_pos h4] at hg
      exact (near_visit W0 d f nm dn b0 b1 bb bo bd bn w hI).mono fun e w' ⟨he, hi⟩ => ⟨he, g, _, _, hg, hi⟩
  · rintro d w ⟨g, b0, b1, hg, hI⟩
    cases g with
    | zero => simp [nrF] at hg
    | succ g =>
      simp only [nrF] at hg
      by_cases h2 : d ≤ m
      · rw [if_pos h2, if_neg (by omega)] at hg
        exact ⟨g, b0, b1, hg, hI⟩
      · rw [if_neg h2] at hg
        refine ⟨g + 1, b0, b1, ?_, hI⟩
        simp only [nrF]
        rw [if_neg (by omega)]
        exact hg
  · rintro e w' ⟨he, g, b0, b1, hg, hI⟩
    cases g with
    | zero => simp [nrF] at hg
    | succ g =>
      simp only [nrF] at hg
      rw [if_neg (by omega)] at hg
      have hg := Option.some.inj hg
      simp only [Prod.mk.injEq] at hg
      obtain ⟨rfl, rfl⟩ := hg
      exact ⟨he, hI⟩
set_option maxHeartbeats 8000000 in
set_option maxRecDepth 100000 in
theorem near_walk (k : Nat) (a0 : Int) (a1 : Int) (a2 : Int) (r1 r2 : Int) (r3 : Bool) (w : World) (h : ntF k a0 a1 a2 = some (r1, r2, r3)) :
    Calls Try.prog 10 #[.int .i64 a0, .int .i64 a1, .int .i64 a2] w fun e w' => e = .returned (.tuple #[.agg #[.int .i64 r1, .int .i64 r2], .bool r3]) ∧ Below w.heap.size w w' := by
  have hu23 := Try.underlying23
  have hmf : ∀ (fn : Fn) (first cap : Array Value) (w : World), (Instr.makeFunc fn first cap).run Try.prog w = .ok (.func fn first cap) w := fun _ _ _ _ => rfl
  have hsf : ∀ (fn : Fn) (first cap : Array Value) (a : Addr) (m : Mode) (w : World), (store a (.func fn first cap) m).run Try.prog w = stored Try.prog w a (.func fn first cap) m := fun _ _ _ _ _ _ => run_store _ _ _ _ _ rfl
  have HB := Aside0.mk (Below.refl w.heap.size w)
  unfold ntF at h
  obtain ⟨t, ht, h⟩ := Option.bind_eq_some_iff.mp h
  have HA := Aside0.mk ht
  cases t with
  | false =>
    rw [if_neg (by decide)] at h
    clear ht
    simp only [Option.some.injEq, Prod.mk.injEq] at h
    obtain ⟨rfl, rfl, rfl⟩ := h
    go_enter Try.func10, Try.ntmps10
    go_wp2_with (first | ((with_reducible refine gate_dst (N := 3) rfl ?_); refine box_event ?hg (N := 3) ?hd (cs := #[.int .i64 a0]) (t := 3) ?hr ?_; (case hd => rfl); (case hg => rfl); (case hr => first | (go_simp; done) | (go_simp; rfl)); intro bn hg w1 hbox hb; have BKbn := Aside0.mk hbox; have n0_ := Aside0.mk (below_step (by repeat (first | (with_reducible first | exact HB.out | apply below_alloc | apply pw_below_drewN | apply below_drew1) | exact HB.out)) hb); clear HB ; have HB := n0_; clear n0_; clear hb hbox hg; ) | ((with_reducible refine gate_dst (N := 4) rfl ?_); refine box_event ?hg (N := 4) ?hd (cs := #[.int .i64 a1]) (t := 3) ?hr ?_; (case hd => rfl); (case hg => rfl); (case hr => first | (go_simp; done) | (go_simp; rfl)); intro bd hg w2 hbox hb; have BKbd := Aside0.mk hbox; have n0_ := Aside0.mk (below_step (by repeat (first | (with_reducible first | exact HB.out | apply below_alloc | apply pw_below_drewN | apply below_drew1) | exact HB.out)) hb); have n1_ := Aside0.mk (blk_below (by (with_reducible repeat (first | refine blk_drewN ?_ _ | refine blk_drew ?_ | refine blk_alloc ?_ _)); exact BKbn.out) hb); clear HB BKbn; have HB := n0_; have BKbn := n1_; clear n0_ n1_; clear hb hbox hg; ) | ((with_reducible refine gate_dst (N := 6) rfl ?_); refine box_event ?hg (N := 6) ?hd (cs := #[.int .i64 0, .int .i64 0]) (t := 23) ?hr ?_; (case hd => rfl); (case hg => rfl); (case hr => first | (go_simp; done) | (go_simp; rfl)); intro br hg w3 hbox hb; have BKbr := Aside0.mk hbox; have GR := Aside0.mk (by rw [hg]; exact (below_size (by repeat (first | (with_reducible first | exact HB.out | apply below_alloc | apply pw_below_drewN | apply below_drew1) | exact HB.out))) : w.heap.size ≤ br); have n0_ := Aside0.mk (below_step (by repeat (first | (with_reducible first | exact HB.out | apply below_alloc | apply pw_below_drewN | apply below_drew1) | exact HB.out)) hb); have n1_ := Aside0.mk (blk_below (by (with_reducible repeat (first | refine blk_drewN ?_ _ | refine blk_drew ?_ | refine blk_alloc ?_ _)); exact BKbn.out) hb); have n2_ := Aside0.mk (blk_below (by (with_reducible repeat (first | refine blk_drewN ?_ _ | refine blk_drew ?_ | refine blk_alloc ?_ _)); exact BKbd.out) hb); clear HB BKbn BKbd; have HB := n0_; have BKbn := n1_; have BKbd := n2_; clear n0_ n1_ n2_; clear hb hbox hg; have hcBKbn0 : w3.cell? ⟨bn, 0, none⟩ = some (.int .i64 a0) := (blk_cell BKbn.out 0).trans rfl; have hcBKbd0 : w3.cell? ⟨bd, 0, none⟩ = some (.int .i64 a1) := (blk_cell BKbd.out 0).trans rfl; have hcBKbr0 : w3.cell? ⟨br, 0, none⟩ = some (.int .i64 0) := (blk_cell BKbr.out 0).trans rfl; have hfcBKbr0 := blk_frozen BKbr.out 0; have hcBKbr1 : w3.cell? ⟨br, 1, none⟩ = some (.int .i64 0) := (blk_cell BKbr.out 1).trans rfl; have hfcBKbr1 := blk_frozen BKbr.out 1) | (go_at_call 35; (refine (impl_areRatio.calls a0 a1 a2 _ _ HA.out).mono ?_); rintro e w' ⟨rfl, ⟨nd, rfl⟩⟩))
    refine bodyPost_ret (results_ct rfl _ _ br 23 #[.int .i64 0, .int .i64 0] (0, 0) _ rfl (by refine blk_put (cs := #[.int .i64 0, .int .i64 0]) ?_ 1 _ rfl; refine blk_put (cs := #[.int .i64 0, .int .i64 0]) ?_ 0 _ rfl; exact (by (with_reducible repeat (first | refine blk_drewN ?_ _ | refine blk_drew ?_ | refine blk_alloc ?_ _)); exact BKbr.out)) Try.underlying23 rfl (by kernel_rfl)) rfl ⟨rfl, (by repeat (first | (with_reducible first | exact HB.out | apply below_alloc | apply pw_below_drewN | apply below_drew1 | refine below_set ?_ GR.out) | exact HB.out))⟩
  | true =>
    rw [if_pos rfl] at h
    obtain ⟨o, ho, h⟩ := Option.bind_eq_some_iff.mp h
    simp only [Option.some.injEq, Prod.mk.injEq] at h
    obtain ⟨rfl, rfl, rfl⟩ := h
    have HR := Aside0.mk ho
    have HG := Aside0.mk (nr_range ht)
    clear ht ho
    go_enter Try.func10, Try.ntmps10
    go_wp2_with (first | ((with_reducible refine gate_dst (N := 3) rfl ?_); refine box_event ?hg (N := 3) ?hd (cs := #[.int .i64 a0]) (t := 3) ?hr ?_; (case hd => rfl); (case hg => rfl); (case hr => first | (go_simp; done) | (go_simp; rfl)); intro bn hg w1 hbox hb; have BKbn := Aside0.mk hbox; have n0_ := Aside0.mk (below_step (by repeat (first | (with_reducible first | exact HB.out | apply below_alloc | apply pw_below_drewN | apply below_drew1) | exact HB.out)) hb); clear HB ; have HB := n0_; clear n0_; clear hb hbox hg; ) | ((with_reducible refine gate_dst (N := 4) rfl ?_); refine box_event ?hg (N := 4) ?hd (cs := #[.int .i64 a1]) (t := 3) ?hr ?_; (case hd => rfl); (case hg => rfl); (case hr => first | (go_simp; done) | (go_simp; rfl)); intro bd hg w2 hbox hb; have BKbd := Aside0.mk hbox; have n0_ := Aside0.mk (below_step (by repeat (first | (with_reducible first | exact HB.out | apply below_alloc | apply pw_below_drewN | apply below_drew1) | exact HB.out)) hb); have n1_ := Aside0.mk (blk_below (by (with_reducible repeat (first | refine blk_drewN ?_ _ | refine blk_drew ?_ | refine blk_alloc ?_ _)); exact BKbn.out) hb); clear HB BKbn; have HB := n0_; have BKbn := n1_; clear n0_ n1_; clear hb hbox hg; ) | ((with_reducible refine gate_dst (N := 6) rfl ?_); refine box_event ?hg (N := 6) ?hd (cs := #[.int .i64 0, .int .i64 0]) (t := 23) ?hr ?_; (case hd => rfl); (case hg => rfl); (case hr => first | (go_simp; done) | (go_simp; rfl)); intro br hg w3 hbox hb; have BKbr := Aside0.mk hbox; have GR := Aside0.mk (by rw [hg]; exact (below_size (by repeat (first | (with_reducible first | exact HB.out | apply below_alloc | apply pw_below_drewN | apply below_drew1) | exact HB.out))) : w.heap.size ≤ br); have n0_ := Aside0.mk (below_step (by repeat (first | (with_reducible first | exact HB.out | apply below_alloc | apply pw_below_drewN | apply below_drew1) | exact HB.out)) hb); have n1_ := Aside0.mk (blk_below (by (with_reducible repeat (first | refine blk_drewN ?_ _ | refine blk_drew ?_ | refine blk_alloc ?_ _)); exact BKbn.out) hb); have n2_ := Aside0.mk (blk_below (by (with_reducible repeat (first | refine blk_drewN ?_ _ | refine blk_drew ?_ | refine blk_alloc ?_ _)); exact BKbd.out) hb); clear HB BKbn BKbd; have HB := n0_; have BKbn := n1_; have BKbd := n2_; clear n0_ n1_ n2_; clear hb hbox hg; have hcBKbn0 : w3.cell? ⟨bn, 0, none⟩ = some (.int .i64 a0) := (blk_cell BKbn.out 0).trans rfl; have hcBKbd0 : w3.cell? ⟨bd, 0, none⟩ = some (.int .i64 a1) := (blk_cell BKbd.out 0).trans rfl; have hcBKbr0 : w3.cell? ⟨br, 0, none⟩ = some (.int .i64 0) := (blk_cell BKbr.out 0).trans rfl; have hfcBKbr0 := blk_frozen BKbr.out 0; have hcBKbr1 : w3.cell? ⟨br, 1, none⟩ = some (.int .i64 0) := (blk_cell BKbr.out 1).trans rfl; have hfcBKbr1 := blk_frozen BKbr.out 1; have HB0 := HB; have BR3 := BKbr; clear HB; have HB := Aside0.mk (Below.refl w3.heap.size w3)) | ((with_reducible refine gate_dst (N := 8) rfl ?_); refine box_event ?hg (N := 8) ?hd (cs := #[.int .i64 0, .int .i64 0]) (t := 23) ?hr ?_; (case hd => rfl); (case hg => rfl); (case hr => first | (go_simp; done) | (go_simp; rfl)); intro bb hg w4 hbox hb; have BKbb := Aside0.mk hbox; have GE := Aside0.mk (by rw [hg]; exact (below_size (by repeat (first | (with_reducible first | exact HB.out | apply below_alloc | apply pw_below_drewN | apply below_drew1) | exact HB.out))) : w3.heap.size ≤ bb); have NR := Aside0.mk ((by rw [hg]; exact Nat.ne_of_lt (blk_lt (by (with_reducible repeat (first | refine blk_drewN ?_ _ | refine blk_drew ?_ | refine blk_alloc ?_ _)); exact BKbr.out))) : br ≠ bb); have n0_ := Aside0.mk (below_step (by repeat (first | (with_reducible first | exact HB.out | apply below_alloc | apply pw_below_drewN | apply below_drew1) | exact HB.out)) hb); have n1_ := Aside0.mk (blk_below (by (with_reducible repeat (first | refine blk_drewN ?_ _ | refine blk_drew ?_ | refine blk_alloc ?_ _)); exact BKbn.out) hb); have n2_ := Aside0.mk (blk_below (by (with_reducible repeat (first | refine blk_drewN ?_ _ | refine blk_drew ?_ | refine blk_alloc ?_ _)); exact BKbd.out) hb); have n3_ := Aside0.mk (blk_below (by (with_reducible repeat (first | refine blk_drewN ?_ _ | refine blk_drew ?_ | refine blk_alloc ?_ _)); exact BKbr.out) hb); clear HB BKbn BKbd BKbr; have HB := n0_; have BKbn := n1_; have BKbd := n2_; have BKbr := n3_; clear n0_ n1_ n2_ n3_; clear hb hbox hg; have hdBKbn0 : w4.cell? ⟨bn, 0, none⟩ = some (.int .i64 a0) := (blk_cell BKbn.out 0).trans rfl; have hdBKbd0 : w4.cell? ⟨bd, 0, none⟩ = some (.int .i64 a1) := (blk_cell BKbd.out 0).trans rfl; have hdBKbr0 : w4.cell? ⟨br, 0, none⟩ = some (.int .i64 0) := (blk_cell BKbr.out 0).trans rfl; have hfdBKbr0 := blk_frozen BKbr.out 0; have hdBKbr1 : w4.cell? ⟨br, 1, none⟩ = some (.int .i64 0) := (blk_cell BKbr.out 1).trans rfl; have hfdBKbr1 := blk_frozen BKbr.out 1; have hdBKbb0 : w4.cell? ⟨bb, 0, none⟩ = some (.int .i64 0) := (blk_cell BKbb.out 0).trans rfl; have hfdBKbb0 := blk_frozen BKbb.out 0; have hdBKbb1 : w4.cell? ⟨bb, 1, none⟩ = some (.int .i64 0) := (blk_cell BKbb.out 1).trans rfl; have hfdBKbb1 := blk_frozen BKbb.out 1) | ((with_reducible refine gate_dst (N := 9) rfl ?_); (refine box_event ?hg (N := 9) ?hd (cs := #[.nilFunc]) (t := 46) ?hr ?_; (case hd => rfl); (case hg => rfl); (case hr => first | (go_simp; done) | (go_simp; rfl)); intro bo hg w5 hbox hb; have BKbo := Aside0.mk hbox; have GO := Aside0.mk (by rw [hg]; exact (below_size (below_set (below_set HB.out GE.out) GE.out)) : w3.heap.size ≤ bo); have n0_ := Aside0.mk (below_step (below_set (below_set HB.out GE.out) GE.out) hb); have n1_ := Aside0.mk (blk_below (blk_far (blk_far BKbn.out (blk_ne BKbn.out BKbb.out (by decide)) _) (blk_ne BKbn.out BKbb.out (by decide)) _) hb); have n2_ := Aside0.mk (blk_below (blk_far (blk_far BKbd.out (blk_ne BKbd.out BKbb.out (by decide)) _) (blk_ne BKbd.out BKbb.out (by decide)) _) hb); have n3_ : Aside0 (w5.heap[bb]? = some (.cells #[.int .i64 0, .int .i64 0] 23 (0, 0))) := ⟨blk_below (blk_put (cs := #[.int .i64 0, .int .i64 0]) (blk_put (cs := #[.int .i64 0, .int .i64 0]) BKbb.out 0 _ rfl) 1 _ rfl) hb⟩; clear HB BKbn BKbd BKbb; have HB := n0_; have BKbn := n1_; have BKbd := n2_; have BKbb := n3_; clear n0_ n1_ n2_ n3_; clear hb hbox hg; have hfo0 := blk_frozen BKbo.out 0; have hco0 : w5.cell? ⟨bo, 0, none⟩ = some (.nilFunc) := (blk_cell BKbo.out 0).trans rfl)) | (go_at_call 35; (refine (impl_areRatio.calls a0 a1 a2 _ _ HA.out).mono ?_); rintro e w' ⟨rfl, ⟨nd, rfl⟩⟩) | (go_at_call 37; ((refine (near_each k w3 a0 a1 a2 bb bo bd bn o.1 o.2 (by have := HG.out; omega) (by have := HG.out; omega) _ ⟨blk_far BKbb.out (blk_ne BKbb.out BKbo.out (by decide)) _, blk_put BKbo.out 0 _ rfl, blk_far BKbd.out (blk_ne BKbd.out BKbo.out (by decide)) _, blk_far BKbn.out (blk_ne BKbn.out BKbo.out (by decide)) _, GE.out, below_set HB.out GO.out⟩ HR.out).mono ?_); rintro e w10 ⟨rfl, hI⟩; obtain ⟨h1, h2, h3, h4, hge, hB⟩ := hI; have HBB := Aside0.mk hB; have BRR := Aside0.mk (blk_below BR3.out hB); have BBB := Aside0.mk h1; clear h1 h2 h3 h4 hge hB; have hb0 : w10.cell? ⟨bb, 0, none⟩ = some (.int .i64 o.1) := (blk_cell BBB.out 0).trans rfl; have hb1 : w10.cell? ⟨bb, 1, none⟩ = some (.int .i64 o.2) := (blk_cell BBB.out 1).trans rfl; have hr0 : w10.cell? ⟨br, 0, none⟩ = some (.int .i64 0) := (blk_cell BRR.out 0).trans rfl; have hr1 : w10.cell? ⟨br, 1, none⟩ = some (.int .i64 0) := (blk_cell BRR.out 1).trans rfl; have fr0 := blk_frozen BRR.out 0; have fr1 := blk_frozen BRR.out 1)))
    refine bodyPost_ret (results_ct rfl _ _ br 23 #[.int .i64 o.1, .int .i64 o.2] (0, 0) _ rfl (by refine blk_put (cs := #[.int .i64 o.1, .int .i64 0]) ?_ 1 _ rfl; refine blk_put (cs := #[.int .i64 0, .int .i64 0]) ?_ 0 _ rfl; exact BRR.out) Try.underlying23 rfl (by kernel_rfl)) rfl ⟨rfl, below_set (below_set (below_step HB0.out HBB.out) GR.out) GR.out⟩

def impl_NearestPair.f (k : Nat) (a0 : Int) (a1 : Int) (a2 : Int) : Option (Int × Int × Bool) := ntF k a0 a1 a2
theorem impl_NearestPair.mono : ∀ a0 a1 a2 k, LeO (impl_NearestPair.f k a0 a1 a2) (impl_NearestPair.f (k + 1) a0 a1 a2) := fun a0 a1 a2 k => by
  unfold impl_NearestPair.f ntF
  exact LeO.bind (LeO.refl _) (fun _ => LeO.ite (LeO.bind (nrF_mono a0 a1 a2 k 6 6 0 0) (fun _ => LeO.refl _)) (LeO.refl _))
theorem impl_NearestPair.calls (k : Nat) (a0 : Int) (a1 : Int) (a2 : Int) (r1 : Int) (r2 : Int) (r3 : Bool) (w : World) (h : impl_NearestPair.f k a0 a1 a2 = some (r1, r2, r3)) :
    Calls Try.prog 10 #[.int .i64 a0, .int .i64 a1, .int .i64 a2] w fun e w' => e = .returned (.tuple #[.agg #[.int .i64 r1, .int .i64 r2], .bool r3]) ∧ Below w.heap.size w w' := near_walk k a0 a1 a2 r1 r2 r3 w h

/-! ### laws_eqPair: function 11 -/
def laws_eqPair.f (a0_0 : Int) (a0_1 : Int) (a1_0 : Int) (a1_1 : Int) : Option (Bool) := if a0_0 = a1_0 then (if a0_1 = a1_1 then (some true) else (some false)) else (some false)
set_option maxHeartbeats 8000000 in
set_option maxRecDepth 100000 in
theorem laws_eqPair.calls (a0_0 : Int) (a0_1 : Int) (a1_0 : Int) (a1_1 : Int) (r : Bool) (w : World) (h : laws_eqPair.f a0_0 a0_1 a1_0 a1_1 = some r) :
    Calls Try.prog 11 #[.agg #[.int .i64 a0_0, .int .i64 a0_1], .agg #[.int .i64 a1_0, .int .i64 a1_1]] w fun e w' => e = .returned (.bool r) ∧ Below w.heap.size w w' := by
  have hu23 := Try.underlying23
  have HB := Aside0.mk (Below.refl w.heap.size w)
  have H : (if a0_0 = a1_0 then (if a0_1 = a1_1 then (some true) else (some false)) else (some false)) = some r := h
  clear h
  by_cases c3 : a0_0 = a1_0
  · rw [if_pos c3] at H
    have c3b0 : (a0_0 == a1_0) = true := beq_iff_eq.mpr c3
    have c3b1 : (a0_0 != a1_0) = false := bne_eq_false_iff_eq.mpr c3
    clear c3
    by_cases c4 : a0_1 = a1_1
    · rw [if_pos c4] at H
      have c4b0 : (a0_1 == a1_1) = true := beq_iff_eq.mpr c4
      have c4b1 : (a0_1 != a1_1) = false := bne_eq_false_iff_eq.mpr c4
      clear c4
      obtain rfl := Option.some.inj H
      go_enter Try.func11, Try.ntmps11
      go_wp2_with (first | ((with_reducible refine gate_dst (N := 2) rfl ?_); refine box_event ?hg (N := 2) ?hd (cs := #[.int .i64 a0_0, .int .i64 a0_1]) (t := 23) ?hr ?_; (case hd => rfl); (case hg => rfl); (case hr => first | (go_simp; done) | (go_simp; rfl)); intro gb123 hg w5 hbox hb; have n0_ := Aside0.mk (below_step (by repeat (first | (with_reducible first | exact HB.out | apply below_alloc | apply pw_below_drewN | apply below_drew1) | exact HB.out)) hb); have n1_ := Aside0.mk (hbox); have n2_ := Aside0.mk ((by rw [hg]; exact (below_size (by repeat (first | (with_reducible first | exact HB.out | apply below_alloc | apply pw_below_drewN | apply below_drew1) | exact HB.out))) : w.heap.size ≤ gb123)); have n3_ := Aside0.mk ((by rw [hg]; exact (below_size (by repeat (first | (with_reducible first | exact HB.out | apply below_alloc | apply pw_below_drewN | apply below_drew1) | exact HB.out))) : w.heap.size ≤ gb123)); clear HB; have HB := n0_; have BK123 := n1_; have GW123 := n2_; have GE123 := n3_; clear n0_ n1_ n2_ n3_; clear hb hbox hg) | ((with_reducible refine gate_dst (N := 3) rfl ?_); refine box_event ?hg (N := 3) ?hd (cs := #[.int .i64 a1_0, .int .i64 a1_1]) (t := 23) ?hr ?_; (case hd => rfl); (case hg => rfl); (case hr => first | (go_simp; done) | (go_simp; rfl)); intro gb124 hg w6 hbox hb; have n0_ := Aside0.mk (blk_below (g := gb123) (o := .cells #[.int .i64 a0_0, .int .i64 a0_1] 23 (0, 0)) (by (with_reducible repeat (first | refine blk_drewN ?_ _ | refine blk_drew ?_ | refine blk_alloc ?_ _)); exact BK123.out) hb); have n1_ := Aside0.mk (below_step (by repeat (first | (with_reducible first | exact HB.out | apply below_alloc | apply pw_below_drewN | apply below_drew1 | refine below_set ?_ GE123.out) | exact HB.out)) hb); have n2_ := Aside0.mk (hbox); have n3_ := Aside0.mk ((by rw [hg]; exact (below_size (by repeat (first | (with_reducible first | exact HB.out | apply below_alloc | apply pw_below_drewN | apply below_drew1 | refine below_set ?_ GE123.out) | exact HB.out))) : w.heap.size ≤ gb124)); have n4_ := Aside0.mk ((by rw [hg]; exact (below_size (by repeat (first | (with_reducible first | exact HB.out | apply below_alloc | apply pw_below_drewN | apply below_drew1 | refine below_set ?_ GE123.out) | exact HB.out))) : w.heap.size ≤ gb124)); have n5_ := Aside0.mk ((by rw [hg]; exact Nat.ne_of_lt (blk_lt (g := gb123) (o := .cells #[.int .i64 a0_0, .int .i64 a0_1] 23 (0, 0)) (by (with_reducible repeat (first | refine blk_drewN ?_ _ | refine blk_drew ?_ | refine blk_alloc ?_ _)); exact BK123.out)) : gb123 ≠ gb124)); have n6_ := Aside0.mk ((by rw [hg]; exact Nat.ne_of_gt (blk_lt (g := gb123) (o := .cells #[.int .i64 a0_0, .int .i64 a0_1] 23 (0, 0)) (by (with_reducible repeat (first | refine blk_drewN ?_ _ | refine blk_drew ?_ | refine blk_alloc ?_ _)); exact BK123.out)) : gb124 ≠ gb123)); clear BK123; clear HB; have BK123 := n0_; have HB := n1_; have BK124 := n2_; have GW124 := n3_; have GE124 := n4_; have NB123_124 := n5_; have NB124_123 := n6_; clear n0_ n1_ n2_ n3_ n4_ n5_ n6_; clear hb hbox hg; have hnb7 := NB123_124.out; have hnc7 := NB124_123.out; have hcz8_0 : w6.cell? ⟨gb123, 0, none⟩ = some (.int .i64 a0_0) := (blk_cell BK123.out 0).trans rfl; have hcz8_1 : w6.cell? ⟨gb123, 1, none⟩ = some (.int .i64 a0_1) := (blk_cell BK123.out 1).trans rfl; have hfz8_0 := blk_frozen BK123.out 0; have hfz8_1 := blk_frozen BK123.out 1; have hcz9_0 : w6.cell? ⟨gb124, 0, none⟩ = some (.int .i64 a1_0) := (blk_cell BK124.out 0).trans rfl; have hcz9_1 : w6.cell? ⟨gb124, 1, none⟩ = some (.int .i64 a1_1) := (blk_cell BK124.out 1).trans rfl; have hfz9_0 := blk_frozen BK124.out 0; have hfz9_1 := blk_frozen BK124.out 1))
      go_ret
      exact ⟨by first | rfl | (simp [errW_none, errW_some] <;> rfl) | (simp [*, errW_none, errW_some] <;> rfl), by repeat (first | (with_reducible first | exact HB.out | apply below_alloc | apply pw_below_drewN | apply below_drew1 | refine below_set ?_ GE123.out | refine below_set ?_ GE124.out) | exact HB.out)⟩
    · rw [if_neg c4] at H
      have c4b0 : (a0_1 == a1_1) = false := beq_eq_false_iff_ne.mpr c4
      have c4b1 : (a0_1 != a1_1) = true := bne_iff_ne.mpr c4
      obtain rfl := Option.some.inj H
      go_enter Try.func11, Try.ntmps11
      go_wp2_with (first | ((with_reducible refine gate_dst (N := 2) rfl ?_); refine box_event ?hg (N := 2) ?hd (cs := #[.int .i64 a0_0, .int .i64 a0_1]) (t := 23) ?hr ?_; (case hd => rfl); (case hg => rfl); (case hr => first | (go_simp; done) | (go_simp; rfl)); intro gb123 hg w10 hbox hb; have n0_ := Aside0.mk (below_step (by repeat (first | (with_reducible first | exact HB.out | apply below_alloc | apply pw_below_drewN | apply below_drew1) | exact HB.out)) hb); have n1_ := Aside0.mk (hbox); have n2_ := Aside0.mk ((by rw [hg]; exact (below_size (by repeat (first | (with_reducible first | exact HB.out | apply below_alloc | apply pw_below_drewN | apply below_drew1) | exact HB.out))) : w.heap.size ≤ gb123)); have n3_ := Aside0.mk ((by rw [hg]; exact (below_size (by repeat (first | (with_reducible first | exact HB.out | apply below_alloc | apply pw_below_drewN | apply below_drew1) | exact HB.out))) : w.heap.size ≤ gb123)); clear HB; have HB := n0_; have BK123 := n1_; have GW123 := n2_; have GE123 := n3_; clear n0_ n1_ n2_ n3_; clear hb hbox hg) | ((with_reducible refine gate_dst (N := 3) rfl ?_); refine box_event ?hg (N := 3) ?hd (cs := #[.int .i64 a1_0, .int .i64 a1_1]) (t := 23) ?hr ?_; (case hd => rfl); (case hg => rfl); (case hr => first | (go_simp; done) | (go_simp; rfl)); intro gb124 hg w11 hbox hb; have n0_ := Aside0.mk (blk_below (g := gb123) (o := .cells #[.int .i64 a0_0, .int .i64 a0_1] 23 (0, 0)) (by (with_reducible repeat (first | refine blk_drewN ?_ _ | refine blk_drew ?_ | refine blk_alloc ?_ _)); exact BK123.out) hb); have n1_ := Aside0.mk (below_step (by repeat (first | (with_reducible first | exact HB.out | apply below_alloc | apply pw_below_drewN | apply below_drew1 | refine below_set ?_ GE123.out) | exact HB.out)) hb); have n2_ := Aside0.mk (hbox); have n3_ := Aside0.mk ((by rw [hg]; exact (below_size (by repeat (first | (with_reducible first | exact HB.out | apply below_alloc | apply pw_below_drewN | apply below_drew1 | refine below_set ?_ GE123.out) | exact HB.out))) : w.heap.size ≤ gb124)); have n4_ := Aside0.mk ((by rw [hg]; exact (below_size (by repeat (first | (with_reducible first | exact HB.out | apply below_alloc | apply pw_below_drewN | apply below_drew1 | refine below_set ?_ GE123.out) | exact HB.out))) : w.heap.size ≤ gb124)); have n5_ := Aside0.mk ((by rw [hg]; exact Nat.ne_of_lt (blk_lt (g := gb123) (o := .cells #[.int .i64 a0_0, .int .i64 a0_1] 23 (0, 0)) (by (with_reducible repeat (first | refine blk_drewN ?_ _ | refine blk_drew ?_ | refine blk_alloc ?_ _)); exact BK123.out)) : gb123 ≠ gb124)); have n6_ := Aside0.mk ((by rw [hg]; exact Nat.ne_of_gt (blk_lt (g := gb123) (o := .cells #[.int .i64 a0_0, .int .i64 a0_1] 23 (0, 0)) (by (with_reducible repeat (first | refine blk_drewN ?_ _ | refine blk_drew ?_ | refine blk_alloc ?_ _)); exact BK123.out)) : gb124 ≠ gb123)); clear BK123; clear HB; have BK123 := n0_; have HB := n1_; have BK124 := n2_; have GW124 := n3_; have GE124 := n4_; have NB123_124 := n5_; have NB124_123 := n6_; clear n0_ n1_ n2_ n3_ n4_ n5_ n6_; clear hb hbox hg; have hnb12 := NB123_124.out; have hnc12 := NB124_123.out; have hcz13_0 : w11.cell? ⟨gb123, 0, none⟩ = some (.int .i64 a0_0) := (blk_cell BK123.out 0).trans rfl; have hcz13_1 : w11.cell? ⟨gb123, 1, none⟩ = some (.int .i64 a0_1) := (blk_cell BK123.out 1).trans rfl; have hfz13_0 := blk_frozen BK123.out 0; have hfz13_1 := blk_frozen BK123.out 1; have hcz14_0 : w11.cell? ⟨gb124, 0, none⟩ = some (.int .i64 a1_0) := (blk_cell BK124.out 0).trans rfl; have hcz14_1 : w11.cell? ⟨gb124, 1, none⟩ = some (.int .i64 a1_1) := (blk_cell BK124.out 1).trans rfl; have hfz14_0 := blk_frozen BK124.out 0; have hfz14_1 := blk_frozen BK124.out 1))
      go_ret
      exact ⟨by first | rfl | (simp [errW_none, errW_some] <;> rfl) | (simp [*, errW_none, errW_some] <;> rfl), by repeat (first | (with_reducible first | exact HB.out | apply below_alloc | apply pw_below_drewN | apply below_drew1 | refine below_set ?_ GE123.out | refine below_set ?_ GE124.out) | exact HB.out)⟩
  · rw [if_neg c3] at H
    have c3b0 : (a0_0 == a1_0) = false := beq_eq_false_iff_ne.mpr c3
    have c3b1 : (a0_0 != a1_0) = true := bne_iff_ne.mpr c3
    obtain rfl := Option.some.inj H
    go_enter Try.func11, Try.ntmps11
    go_wp2_with (first | ((with_reducible refine gate_dst (N := 2) rfl ?_); refine box_event ?hg (N := 2) ?hd (cs := #[.int .i64 a0_0, .int .i64 a0_1]) (t := 23) ?hr ?_; (case hd => rfl); (case hg => rfl); (case hr => first | (go_simp; done) | (go_simp; rfl)); intro gb123 hg w15 hbox hb; have n0_ := Aside0.mk (below_step (by repeat (first | (with_reducible first | exact HB.out | apply below_alloc | apply pw_below_drewN | apply below_drew1) | exact HB.out)) hb); have n1_ := Aside0.mk (hbox); have n2_ := Aside0.mk ((by rw [hg]; exact (below_size (by repeat (first | (with_reducible first | exact HB.out | apply below_alloc | apply pw_below_drewN | apply below_drew1) | exact HB.out))) : w.heap.size ≤ gb123)); have n3_ := Aside0.mk ((by rw [hg]; exact (below_size (by repeat (first | (with_reducible first | exact HB.out | apply below_alloc | apply pw_below_drewN | apply below_drew1) | exact HB.out))) : w.heap.size ≤ gb123)); clear HB; have HB := n0_; have BK123 := n1_; have GW123 := n2_; have GE123 := n3_; clear n0_ n1_ n2_ n3_; clear hb hbox hg) | ((with_reducible refine gate_dst (N := 3) rfl ?_); refine box_event ?hg (N := 3) ?hd (cs := #[.int .i64 a1_0, .int .i64 a1_1]) (t := 23) ?hr ?_; (case hd => rfl); (case hg => rfl); (case hr => first | (go_simp; done) | (go_simp; rfl)); intro gb124 hg w16 hbox hb; have n0_ := Aside0.mk (blk_below (g := gb123) (o := .cells #[.int .i64 a0_0, .int .i64 a0_1] 23 (0, 0)) (by (with_reducible repeat (first | refine blk_drewN ?_ _ | refine blk_drew ?_ | refine blk_alloc ?_ _)); exact BK123.out) hb); have n1_ := Aside0.mk (below_step (by repeat (first | (with_reducible first | exact HB.out | apply below_alloc | apply pw_below_drewN | apply below_drew1 | refine below_set ?_ GE123.out) | exact HB.out)) hb); have n2_ := Aside0.mk (hbox); have n3_ := Aside0.mk ((by rw [hg]; exact (below_size (by repeat (first | (with_reducible first | exact HB.out | apply below_alloc | apply pw_below_drewN | apply below_drew1 | refine below_set ?_ GE123.out) | exact HB.out))) : w.heap.size ≤ gb124)); have n4_ := Aside0.mk ((by rw [hg]; exact (below_size (by repeat (first | (with_reducible first | exact HB.out | apply below_alloc | apply pw_below_drewN | apply below_drew1 | refine below_set ?_ GE123.out) | exact HB.out))) : w.heap.size ≤ gb124)); have n5_ := Aside0.mk ((by rw [hg]; exact Nat.ne_of_lt (blk_lt (g := gb123) (o := .cells #[.int .i64 a0_0, .int .i64 a0_1] 23 (0, 0)) (by (with_reducible repeat (first | refine blk_drewN ?_ _ | refine blk_drew ?_ | refine blk_alloc ?_ _)); exact BK123.out)) : gb123 ≠ gb124)); have n6_ := Aside0.mk ((by rw [hg]; exact Nat.ne_of_gt (blk_lt (g := gb123) (o := .cells #[.int .i64 a0_0, .int .i64 a0_1] 23 (0, 0)) (by (with_reducible repeat (first | refine blk_drewN ?_ _ | refine blk_drew ?_ | refine blk_alloc ?_ _)); exact BK123.out)) : gb124 ≠ gb123)); clear BK123; clear HB; have BK123 := n0_; have HB := n1_; have BK124 := n2_; have GW124 := n3_; have GE124 := n4_; have NB123_124 := n5_; have NB124_123 := n6_; clear n0_ n1_ n2_ n3_ n4_ n5_ n6_; clear hb hbox hg; have hnb17 := NB123_124.out; have hnc17 := NB124_123.out; have hcz18_0 : w16.cell? ⟨gb123, 0, none⟩ = some (.int .i64 a0_0) := (blk_cell BK123.out 0).trans rfl; have hcz18_1 : w16.cell? ⟨gb123, 1, none⟩ = some (.int .i64 a0_1) := (blk_cell BK123.out 1).trans rfl; have hfz18_0 := blk_frozen BK123.out 0; have hfz18_1 := blk_frozen BK123.out 1; have hcz19_0 : w16.cell? ⟨gb124, 0, none⟩ = some (.int .i64 a1_0) := (blk_cell BK124.out 0).trans rfl; have hcz19_1 : w16.cell? ⟨gb124, 1, none⟩ = some (.int .i64 a1_1) := (blk_cell BK124.out 1).trans rfl; have hfz19_0 := blk_frozen BK124.out 0; have hfz19_1 := blk_frozen BK124.out 1))
    go_ret
    exact ⟨by first | rfl | (simp [errW_none, errW_some] <;> rfl) | (simp [*, errW_none, errW_some] <;> rfl), by repeat (first | (with_reducible first | exact HB.out | apply below_alloc | apply pw_below_drewN | apply below_drew1 | refine below_set ?_ GE123.out | refine below_set ?_ GE124.out) | exact HB.out)⟩

/-! ### laws_FnExactNearestPair: function 3 -/
def laws_FnExactNearestPair.f (k : Nat) (a0 : Int) (a1 : Int) (a2 : Int) : Option (Bool) := (spec_NearestPair.f k a0 a1 a2).bind fun bt125 => ((impl_NearestPair.f k a0 a1 a2).bind fun bt129 => ((laws_eqPair.f bt129.1 bt129.2.1 bt125.1 bt125.2.1).bind fun t133 => (if t133 = true then (if (bt129.2.2 != bt125.2.2) = true then (some false) else (some true)) else (some false))))
theorem laws_FnExactNearestPair.mono : ∀ a0 a1 a2 k, LeO (laws_FnExactNearestPair.f k a0 a1 a2) (laws_FnExactNearestPair.f (k + 1) a0 a1 a2) := by
  intro a0 a1 a2 k
  unfold laws_FnExactNearestPair.f
  repeat' first
      | (with_reducible exact impl_NearestPair.mono _ _ _ _)
      | (with_reducible exact spec_NearestPair.mono _ _ _ _)
      | (with_reducible exact LeO.refl _)
      | (with_reducible exact LeO.none _)
      | (with_reducible refine LeO.ite ?_ ?_)
      | (with_reducible refine LeO.bind ?_ (fun _ => ?_))
      | exact impl_NearestPair.mono _ _ _ _
      | exact spec_NearestPair.mono _ _ _ _
      | exact LeO.none _
      | refine LeO.ite ?_ ?_
      | refine LeO.bind ?_ (fun _ => ?_)
set_option maxHeartbeats 8000000 in
set_option maxRecDepth 100000 in
theorem laws_FnExactNearestPair.calls (k : Nat) (a0 : Int) (a1 : Int) (a2 : Int) (r : Bool) (w : World) (h : laws_FnExactNearestPair.f k a0 a1 a2 = some r) :
    Calls Try.prog 3 #[.int .i64 a0, .int .i64 a1, .int .i64 a2] w fun e w' => e = .returned (.bool r) ∧ Below w.heap.size w w' := by
  have hu23 := Try.underlying23
  have HB := Aside0.mk (Below.refl w.heap.size w)
  have H : ((spec_NearestPair.f k a0 a1 a2).bind fun bt125 => ((impl_NearestPair.f k a0 a1 a2).bind fun bt129 => ((laws_eqPair.f bt129.1 bt129.2.1 bt125.1 bt125.2.1).bind fun t133 => (if t133 = true then (if (bt129.2.2 != bt125.2.2) = true then (some false) else (some true)) else (some false))))) = some r := h
  clear h
  replace H := Option.bind_eq_some_iff.mp H
  obtain ⟨⟨t125, t126, t127⟩, A40, H⟩ := H
  replace H : ((impl_NearestPair.f k a0 a1 a2).bind fun bt129 => ((laws_eqPair.f bt129.1 bt129.2.1 t125 t126).bind fun t133 => (if t133 = true then (if (bt129.2.2 != t127) = true then (some false) else (some true)) else (some false)))) = some r := H
  have A4 := Aside0.mk A40
  clear A40
  replace H := Option.bind_eq_some_iff.mp H
  obtain ⟨⟨t129, t130, t131⟩, A50, H⟩ := H
  replace H : ((laws_eqPair.f t129 t130 t125 t126).bind fun t133 => (if t133 = true then (if (t131 != t127) = true then (some false) else (some true)) else (some false))) = some r := H
  have A5 := Aside0.mk A50
  clear A50
  replace H := Option.bind_eq_some_iff.mp H
  obtain ⟨t133, A60, H⟩ := H
  replace H : (if t133 = true then (if (t131 != t127) = true then (some false) else (some true)) else (some false)) = some r := H
  have A6 := Aside0.mk A60
  clear A60
  by_cases c7 : t133 = true
  · subst c7
    have H1 : (if (t131 != t127) = true then (some false) else (some true)) = some r := by rw [if_pos rfl] at H; exact H
    clear H
    have H := H1
    clear H1
    by_cases c8 : (t131 != t127) = true
    · rw [if_pos c8] at H
      have c8b0 : (t131 != t127) = true := c8
      (try (have c8b1 : decide (t131 = t127) = false := by simpa using c8))
      (try (have c8b2 : (t131 == t127) = false := by simpa using c8))
      (try (have c8b3 : ¬ (t131 = t127) := by simpa using c8))
      clear c8
      obtain rfl := Option.some.inj H
      go_enter Try.func3, Try.ntmps3
      go_wp2_with (first | ((with_reducible refine gate_callee (f := 9) rfl ?_); refine goesL_ (some 15) rfl rfl Try.func9 (by kernel_rfl) rfl #[.int .i64 a0, .int .i64 a1, .int .i64 a2] rfl (by (try simp only [List.map_toArray, List.map_cons, List.map_nil]); first | done | rfl | (simp only [List.length_drop, List.length_take]; rfl)) ?_; (with_reducible refine (spec_NearestPair.calls k a0 a1 a2 t125 t126 t127 _ A4.out).mono ?_); rintro e w9 ⟨rfl, hb⟩; refine ⟨_, rfl, ?_⟩; have n0_ := Aside0.mk (below_step (by repeat (first | (with_reducible first | exact HB.out | apply below_alloc | apply pw_below_drewN | apply below_drew1) | exact HB.out)) hb); clear HB; have HB := n0_; clear n0_; (try clear hb); (try clear hb2); (try clear hk); (try clear hi)) | ((with_reducible refine gate_dst (N := 7) rfl ?_); refine box_event ?hg (N := 7) ?hd (cs := #[.int .i64 0, .int .i64 0]) (t := 23) ?hr ?_; (case hd => rfl); (case hg => rfl); (case hr => first | (go_simp; done) | (go_simp; rfl)); intro gb128 hg w10 hbox hb; have n0_ := Aside0.mk (below_step (by repeat (first | (with_reducible first | exact HB.out | apply below_alloc | apply pw_below_drewN | apply below_drew1) | exact HB.out)) hb); have n1_ := Aside0.mk (hbox); have n2_ := Aside0.mk ((by rw [hg]; exact (below_size (by repeat (first | (with_reducible first | exact HB.out | apply below_alloc | apply pw_below_drewN | apply below_drew1) | exact HB.out))) : w.heap.size ≤ gb128)); have n3_ := Aside0.mk ((by rw [hg]; exact (below_size (by repeat (first | (with_reducible first | exact HB.out | apply below_alloc | apply pw_below_drewN | apply below_drew1) | exact HB.out))) : w.heap.size ≤ gb128)); clear HB; have HB := n0_; have BK128 := n1_; have GW128 := n2_; have GE128 := n3_; clear n0_ n1_ n2_ n3_; clear hb hbox hg; have hcz11_0 : w10.cell? ⟨gb128, 0, none⟩ = some (.int .i64 0) := (blk_cell BK128.out 0).trans rfl; have hcz11_1 : w10.cell? ⟨gb128, 1, none⟩ = some (.int .i64 0) := (blk_cell BK128.out 1).trans rfl; have hfz11_0 := blk_frozen BK128.out 0; have hfz11_1 := blk_frozen BK128.out 1) | ((with_reducible refine gate_callee (f := 10) rfl ?_); refine goesL_ (some 22) rfl rfl Try.func10 (by kernel_rfl) rfl #[.int .i64 a0, .int .i64 a1, .int .i64 a2] rfl (by (try simp only [List.map_toArray, List.map_cons, List.map_nil]); first | done | rfl | (simp only [List.length_drop, List.length_take]; rfl)) ?_; (with_reducible refine (impl_NearestPair.calls k a0 a1 a2 t129 t130 t131 _ A5.out).mono ?_); rintro e w12 ⟨rfl, hb⟩; refine ⟨_, rfl, ?_⟩; have n0_ := Aside0.mk (blk_below (g := gb128) (o := .cells #[.int .i64 t125, .int .i64 t126] 23 (0, 0)) (by (with_reducible repeat (first | refine blk_drewN ?_ _ | refine blk_drew ?_ | refine blk_alloc ?_ _)); refine blk_put (cs := #[.int .i64 t125, .int .i64 0]) ?_ 1 _ rfl; (with_reducible repeat (first | refine blk_drewN ?_ _ | refine blk_drew ?_ | refine blk_alloc ?_ _)); refine blk_put (cs := #[.int .i64 0, .int .i64 0]) ?_ 0 _ rfl; (with_reducible repeat (first | refine blk_drewN ?_ _ | refine blk_drew ?_ | refine blk_alloc ?_ _)); exact BK128.out) hb); have n1_ := Aside0.mk (below_step (by repeat (first | (with_reducible first | exact HB.out | apply below_alloc | apply pw_below_drewN | apply below_drew1 | refine below_set ?_ GE128.out) | exact HB.out)) hb); clear BK128; clear HB; have BK128 := n0_; have HB := n1_; clear n0_ n1_; (try clear hb); (try clear hb2); (try clear hk); (try clear hi)) | ((with_reducible refine gate_dst (N := 9) rfl ?_); refine box_event ?hg (N := 9) ?hd (cs := #[.int .i64 0, .int .i64 0]) (t := 23) ?hr ?_; (case hd => rfl); (case hg => rfl); (case hr => first | (go_simp; done) | (go_simp; rfl)); intro gb132 hg w13 hbox hb; have n0_ := Aside0.mk (blk_below (g := gb128) (o := .cells #[.int .i64 t125, .int .i64 t126] 23 (0, 0)) (by (with_reducible repeat (first | refine blk_drewN ?_ _ | refine blk_drew ?_ | refine blk_alloc ?_ _)); exact BK128.out) hb); have n1_ := Aside0.mk (below_step (by repeat (first | (with_reducible first | exact HB.out | apply below_alloc | apply pw_below_drewN | apply below_drew1 | refine below_set ?_ GE128.out) | exact HB.out)) hb); have n2_ := Aside0.mk (hbox); have n3_ := Aside0.mk ((by rw [hg]; exact (below_size (by repeat (first | (with_reducible first | exact HB.out | apply below_alloc | apply pw_below_drewN | apply below_drew1 | refine below_set ?_ GE128.out) | exact HB.out))) : w.heap.size ≤ gb132)); have n4_ := Aside0.mk ((by rw [hg]; exact (below_size (by repeat (first | (with_reducible first | exact HB.out | apply below_alloc | apply pw_below_drewN | apply below_drew1 | refine below_set ?_ GE128.out) | exact HB.out))) : w.heap.size ≤ gb132)); have n5_ := Aside0.mk ((by rw [hg]; exact Nat.ne_of_lt (blk_lt (g := gb128) (o := .cells #[.int .i64 t125, .int .i64 t126] 23 (0, 0)) (by (with_reducible repeat (first | refine blk_drewN ?_ _ | refine blk_drew ?_ | refine blk_alloc ?_ _)); exact BK128.out)) : gb128 ≠ gb132)); have n6_ := Aside0.mk ((by rw [hg]; exact Nat.ne_of_gt (blk_lt (g := gb128) (o := .cells #[.int .i64 t125, .int .i64 t126] 23 (0, 0)) (by (with_reducible repeat (first | refine blk_drewN ?_ _ | refine blk_drew ?_ | refine blk_alloc ?_ _)); exact BK128.out)) : gb132 ≠ gb128)); clear BK128; clear HB; have BK128 := n0_; have HB := n1_; have BK132 := n2_; have GW132 := n3_; have GE132 := n4_; have NB128_132 := n5_; have NB132_128 := n6_; clear n0_ n1_ n2_ n3_ n4_ n5_ n6_; clear hb hbox hg; have hnb14 := NB132_128.out; have hnc14 := NB128_132.out; have hcz15_0 : w13.cell? ⟨gb132, 0, none⟩ = some (.int .i64 0) := (blk_cell BK132.out 0).trans rfl; have hcz15_1 : w13.cell? ⟨gb132, 1, none⟩ = some (.int .i64 0) := (blk_cell BK132.out 1).trans rfl; have hfz15_0 := blk_frozen BK132.out 0; have hfz15_1 := blk_frozen BK132.out 1; have hcz16_0 : w13.cell? ⟨gb128, 0, none⟩ = some (.int .i64 t125) := (blk_cell BK128.out 0).trans rfl; have hcz16_1 : w13.cell? ⟨gb128, 1, none⟩ = some (.int .i64 t126) := (blk_cell BK128.out 1).trans rfl; have hfz16_0 := blk_frozen BK128.out 0; have hfz16_1 := blk_frozen BK128.out 1) | ((with_reducible refine gate_callee (f := 11) rfl ?_); refine goesL_ (some 27) rfl rfl Try.func11 (by kernel_rfl) rfl #[.agg #[.int .i64 t129, .int .i64 t130], .agg #[.int .i64 t125, .int .i64 t126]] rfl (by (try simp only [List.map_toArray, List.map_cons, List.map_nil]); first | done | rfl | (simp only [List.length_drop, List.length_take]; rfl)) ?_; (with_reducible refine (laws_eqPair.calls t129 t130 t125 t126 true _ A6.out).mono ?_); rintro e w17 ⟨rfl, hb⟩; refine ⟨_, rfl, ?_⟩; have n0_ := Aside0.mk (blk_below (g := gb128) (o := .cells #[.int .i64 t125, .int .i64 t126] 23 (0, 0)) (by (with_reducible repeat (first | refine blk_drewN ?_ _ | refine blk_drew ?_ | refine blk_alloc ?_ _)); refine blk_far ?_ NB128_132.out _; (with_reducible repeat (first | refine blk_drewN ?_ _ | refine blk_drew ?_ | refine blk_alloc ?_ _)); refine blk_far ?_ NB128_132.out _; (with_reducible repeat (first | refine blk_drewN ?_ _ | refine blk_drew ?_ | refine blk_alloc ?_ _)); exact BK128.out) hb); have n1_ := Aside0.mk (blk_below (g := gb132) (o := .cells #[.int .i64 t129, .int .i64 t130] 23 (0, 0)) (by (with_reducible repeat (first | refine blk_drewN ?_ _ | refine blk_drew ?_ | refine blk_alloc ?_ _)); refine blk_put (cs := #[.int .i64 t129, .int .i64 0]) ?_ 1 _ rfl; (with_reducible repeat (first | refine blk_drewN ?_ _ | refine blk_drew ?_ | refine blk_alloc ?_ _)); refine blk_put (cs := #[.int .i64 0, .int .i64 0]) ?_ 0 _ rfl; (with_reducible repeat (first | refine blk_drewN ?_ _ | refine blk_drew ?_ | refine blk_alloc ?_ _)); exact BK132.out) hb); have n2_ := Aside0.mk (below_step (by repeat (first | (with_reducible first | exact HB.out | apply below_alloc | apply pw_below_drewN | apply below_drew1 | refine below_set ?_ GE128.out | refine below_set ?_ GE132.out) | exact HB.out)) hb); clear BK128; clear BK132; clear HB; have BK128 := n0_; have BK132 := n1_; have HB := n2_; clear n0_ n1_ n2_; (try clear hb); (try clear hb2); (try clear hk); (try clear hi)))
      go_ret
      exact ⟨by first | rfl | (simp [errW_none, errW_some] <;> rfl) | (simp [*, errW_none, errW_some] <;> rfl), by repeat (first | (with_reducible first | exact HB.out | apply below_alloc | apply pw_below_drewN | apply below_drew1 | refine below_set ?_ GE128.out | refine below_set ?_ GE132.out) | exact HB.out)⟩
    · rw [if_neg c8] at H
      have c8b0 : (t131 != t127) = false := by simpa using c8
      (try (have c8b1 : decide (t131 = t127) = true := by simpa using c8))
      (try (have c8b2 : (t131 == t127) = true := by simpa using c8))
      clear c8
      obtain rfl := Option.some.inj H
      go_enter Try.func3, Try.ntmps3
      go_wp2_with (first | ((with_reducible refine gate_callee (f := 9) rfl ?_); refine goesL_ (some 15) rfl rfl Try.func9 (by kernel_rfl) rfl #[.int .i64 a0, .int .i64 a1, .int .i64 a2] rfl (by (try simp only [List.map_toArray, List.map_cons, List.map_nil]); first | done | rfl | (simp only [List.length_drop, List.length_take]; rfl)) ?_; (with_reducible refine (spec_NearestPair.calls k a0 a1 a2 t125 t126 t127 _ A4.out).mono ?_); rintro e w18 ⟨rfl, hb⟩; refine ⟨_, rfl, ?_⟩; have n0_ := Aside0.mk (below_step (by repeat (first | (with_reducible first | exact HB.out | apply below_alloc | apply pw_below_drewN | apply below_drew1) | exact HB.out)) hb); clear HB; have HB := n0_; clear n0_; (try clear hb); (try clear hb2); (try clear hk); (try clear hi)) | ((with_reducible refine gate_dst (N := 7) rfl ?_); refine box_event ?hg (N := 7) ?hd (cs := #[.int .i64 0, .int .i64 0]) (t := 23) ?hr ?_; (case hd => rfl); (case hg => rfl); (case hr => first | (go_simp; done) | (go_simp; rfl)); intro gb128 hg w19 hbox hb; have n0_ := Aside0.mk (below_step (by repeat (first | (with_reducible first | exact HB.out | apply below_alloc | apply pw_below_drewN | apply below_drew1) | exact HB.out)) hb); have n1_ := Aside0.mk (hbox); have n2_ := Aside0.mk ((by rw [hg]; exact (below_size (by repeat (first | (with_reducible first | exact HB.out | apply below_alloc | apply pw_below_drewN | apply below_drew1) | exact HB.out))) : w.heap.size ≤ gb128)); have n3_ := Aside0.mk ((by rw [hg]; exact (below_size (by repeat (first | (with_reducible first | exact HB.out | apply below_alloc | apply pw_below_drewN | apply below_drew1) | exact HB.out))) : w.heap.size ≤ gb128)); clear HB; have HB := n0_; have BK128 := n1_; have GW128 := n2_; have GE128 := n3_; clear n0_ n1_ n2_ n3_; clear hb hbox hg; have hcz20_0 : w19.cell? ⟨gb128, 0, none⟩ = some (.int .i64 0) := (blk_cell BK128.out 0).trans rfl; have hcz20_1 : w19.cell? ⟨gb128, 1, none⟩ = some (.int .i64 0) := (blk_cell BK128.out 1).trans rfl; have hfz20_0 := blk_frozen BK128.out 0; have hfz20_1 := blk_frozen BK128.out 1) | ((with_reducible refine gate_callee (f := 10) rfl ?_); refine goesL_ (some 22) rfl rfl Try.func10 (by kernel_rfl) rfl #[.int .i64 a0, .int .i64 a1, .int .i64 a2] rfl (by (try simp only [List.map_toArray, List.map_cons, List.map_nil]); first | done | rfl | (simp only [List.length_drop, List.length_take]; rfl)) ?_; (with_reducible refine (impl_NearestPair.calls k a0 a1 a2 t129 t130 t131 _ A5.out).mono ?_); rintro e w21 ⟨rfl, hb⟩; refine ⟨_, rfl, ?_⟩; have n0_ := Aside0.mk (blk_below (g := gb128) (o := .cells #[.int .i64 t125, .int .i64 t126] 23 (0, 0)) (by (with_reducible repeat (first | refine blk_drewN ?_ _ | refine blk_drew ?_ | refine blk_alloc ?_ _)); refine blk_put (cs := #[.int .i64 t125, .int .i64 0]) ?_ 1 _ rfl; (with_reducible repeat (first | refine blk_drewN ?_ _ | refine blk_drew ?_ | refine blk_alloc ?_ _)); refine blk_put (cs := #[.int .i64 0, .int .i64 0]) ?_ 0 _ rfl; (with_reducible repeat (first | refine blk_drewN ?_ _ | refine blk_drew ?_ | refine blk_alloc ?_ _)); exact BK128.out) hb); have n1_ := Aside0.mk (below_step (by repeat (first | (with_reducible first | exact HB.out | apply below_alloc | apply pw_below_drewN | apply below_drew1 | refine below_set ?_ GE128.out) | exact HB.out)) hb); clear BK128; clear HB; have BK128 := n0_; have HB := n1_; clear n0_ n1_; (try clear hb); (try clear hb2); (try clear hk); (try clear hi)) | ((with_reducible refine gate_dst (N := 9) rfl ?_); refine box_event ?hg (N := 9) ?hd (cs := #[.int .i64 0, .int .i64 0]) (t := 23) ?hr ?_; (case hd => rfl); (case hg => rfl); (case hr => first | (go_simp; done) | (go_simp; rfl)); intro gb132 hg w22 hbox hb; have n0_ := Aside0.mk (blk_below (g := gb128) (o := .cells #[.int .i64 t125, .int .i64 t126] 23 (0, 0)) (by (with_reducible repeat (first | refine blk_drewN ?_ _ | refine blk_drew ?_ | refine blk_alloc ?_ _)); exact BK128.out) hb); have n1_ := Aside0.mk (below_step (by repeat (first | (with_reducible first | exact HB.out | apply below_alloc | apply pw_below_drewN | apply below_drew1 | refine below_set ?_ GE128.out) | exact HB.out)) hb); have n2_ := Aside0.mk (hbox); have n3_ := Aside0.mk ((by rw [hg]; exact (below_size (by repeat (first | (with_reducible first | exact HB.out | apply below_alloc | apply pw_below_drewN | apply below_drew1 | refine below_set ?_ GE128.out) | exact HB.out))) : w.heap.size ≤ gb132)); have n4_ := Aside0.mk ((by rw [hg]; exact (below_size (by repeat (first | (with_reducible first | exact HB.out | apply below_alloc | apply pw_below_drewN | apply below_drew1 | refine below_set ?_ GE128.out) | exact HB.out))) : w.heap.size ≤ gb132)); have n5_ := Aside0.mk ((by rw [hg]; exact Nat.ne_of_lt (blk_lt (g := gb128) (o := .cells #[.int .i64 t125, .int .i64 t126] 23 (0, 0)) (by (with_reducible repeat (first | refine blk_drewN ?_ _ | refine blk_drew ?_ | refine blk_alloc ?_ _)); exact BK128.out)) : gb128 ≠ gb132)); have n6_ := Aside0.mk ((by rw [hg]; exact Nat.ne_of_gt (blk_lt (g := gb128) (o := .cells #[.int .i64 t125, .int .i64 t126] 23 (0, 0)) (by (with_reducible repeat (first | refine blk_drewN ?_ _ | refine blk_drew ?_ | refine blk_alloc ?_ _)); exact BK128.out)) : gb132 ≠ gb128)); clear BK128; clear HB; have BK128 := n0_; have HB := n1_; have BK132 := n2_; have GW132 := n3_; have GE132 := n4_; have NB128_132 := n5_; have NB132_128 := n6_; clear n0_ n1_ n2_ n3_ n4_ n5_ n6_; clear hb hbox hg; have hnb23 := NB132_128.out; have hnc23 := NB128_132.out; have hcz24_0 : w22.cell? ⟨gb132, 0, none⟩ = some (.int .i64 0) := (blk_cell BK132.out 0).trans rfl; have hcz24_1 : w22.cell? ⟨gb132, 1, none⟩ = some (.int .i64 0) := (blk_cell BK132.out 1).trans rfl; have hfz24_0 := blk_frozen BK132.out 0; have hfz24_1 := blk_frozen BK132.out 1; have hcz25_0 : w22.cell? ⟨gb128, 0, none⟩ = some (.int .i64 t125) := (blk_cell BK128.out 0).trans rfl; have hcz25_1 : w22.cell? ⟨gb128, 1, none⟩ = some (.int .i64 t126) := (blk_cell BK128.out 1).trans rfl; have hfz25_0 := blk_frozen BK128.out 0; have hfz25_1 := blk_frozen BK128.out 1) | ((with_reducible refine gate_callee (f := 11) rfl ?_); refine goesL_ (some 27) rfl rfl Try.func11 (by kernel_rfl) rfl #[.agg #[.int .i64 t129, .int .i64 t130], .agg #[.int .i64 t125, .int .i64 t126]] rfl (by (try simp only [List.map_toArray, List.map_cons, List.map_nil]); first | done | rfl | (simp only [List.length_drop, List.length_take]; rfl)) ?_; (with_reducible refine (laws_eqPair.calls t129 t130 t125 t126 true _ A6.out).mono ?_); rintro e w26 ⟨rfl, hb⟩; refine ⟨_, rfl, ?_⟩; have n0_ := Aside0.mk (blk_below (g := gb128) (o := .cells #[.int .i64 t125, .int .i64 t126] 23 (0, 0)) (by (with_reducible repeat (first | refine blk_drewN ?_ _ | refine blk_drew ?_ | refine blk_alloc ?_ _)); refine blk_far ?_ NB128_132.out _; (with_reducible repeat (first | refine blk_drewN ?_ _ | refine blk_drew ?_ | refine blk_alloc ?_ _)); refine blk_far ?_ NB128_132.out _; (with_reducible repeat (first | refine blk_drewN ?_ _ | refine blk_drew ?_ | refine blk_alloc ?_ _)); exact BK128.out) hb); have n1_ := Aside0.mk (blk_below (g := gb132) (o := .cells #[.int .i64 t129, .int .i64 t130] 23 (0, 0)) (by (with_reducible repeat (first | refine blk_drewN ?_ _ | refine blk_drew ?_ | refine blk_alloc ?_ _)); refine blk_put (cs := #[.int .i64 t129, .int .i64 0]) ?_ 1 _ rfl; (with_reducible repeat (first | refine blk_drewN ?_ _ | refine blk_drew ?_ | refine blk_alloc ?_ _)); refine blk_put (cs := #[.int .i64 0, .int .i64 0]) ?_ 0 _ rfl; (with_reducible repeat (first | refine blk_drewN ?_ _ | refine blk_drew ?_ | refine blk_alloc ?_ _)); exact BK132.out) hb); have n2_ := Aside0.mk (below_step (by repeat (first | (with_reducible first | exact HB.out | apply below_alloc | apply pw_below_drewN | apply below_drew1 | refine below_set ?_ GE128.out | refine below_set ?_ GE132.out) | exact HB.out)) hb); clear BK128; clear BK132; clear HB; have BK128 := n0_; have BK132 := n1_; have HB := n2_; clear n0_ n1_ n2_; (try clear hb); (try clear hb2); (try clear hk); (try clear hi)))
      go_ret
      exact ⟨by first | rfl | (simp [errW_none, errW_some] <;> rfl) | (simp [*, errW_none, errW_some] <;> rfl), by repeat (first | (with_reducible first | exact HB.out | apply below_alloc | apply pw_below_drewN | apply below_drew1 | refine below_set ?_ GE128.out | refine below_set ?_ GE132.out) | exact HB.out)⟩
  · replace c7 := Bool.eq_false_iff.mpr c7
    subst c7
    have H1 : (some false) = some r := by rw [if_neg (show ¬ (false = true) by decide)] at H; exact H
    clear H
    have H := H1
    clear H1
    obtain rfl := Option.some.inj H
    go_enter Try.func3, Try.ntmps3
    go_wp2_with (first | ((with_reducible refine gate_callee (f := 9) rfl ?_); refine goesL_ (some 15) rfl rfl Try.func9 (by kernel_rfl) rfl #[.int .i64 a0, .int .i64 a1, .int .i64 a2] rfl (by (try simp only [List.map_toArray, List.map_cons, List.map_nil]); first | done | rfl | (simp only [List.length_drop, List.length_take]; rfl)) ?_; (with_reducible refine (spec_NearestPair.calls k a0 a1 a2 t125 t126 t127 _ A4.out).mono ?_); rintro e w27 ⟨rfl, hb⟩; refine ⟨_, rfl, ?_⟩; have n0_ := Aside0.mk (below_step (by repeat (first | (with_reducible first | exact HB.out | apply below_alloc | apply pw_below_drewN | apply below_drew1) | exact HB.out)) hb); clear HB; have HB := n0_; clear n0_; (try clear hb); (try clear hb2); (try clear hk); (try clear hi)) | ((with_reducible refine gate_dst (N := 7) rfl ?_); refine box_event ?hg (N := 7) ?hd (cs := #[.int .i64 0, .int .i64 0]) (t := 23) ?hr ?_; (case hd => rfl); (case hg => rfl); (case hr => first | (go_simp; done) | (go_simp; rfl)); intro gb128 hg w28 hbox hb; have n0_ := Aside0.mk (below_step (by repeat (first | (with_reducible first | exact HB.out | apply below_alloc | apply pw_below_drewN | apply below_drew1) | exact HB.out)) hb); have n1_ := Aside0.mk (hbox); have n2_ := Aside0.mk ((by rw [hg]; exact (below_size (by repeat (first | (with_reducible first | exact HB.out | apply below_alloc | apply pw_below_drewN | apply below_drew1) | exact HB.out))) : w.heap.size ≤ gb128)); have n3_ := Aside0.mk ((by rw [hg]; exact (below_size (by repeat (first | (with_reducible first | exact HB.out | apply below_alloc | apply pw_below_drewN | apply below_drew1) | exact HB.out))) : w.heap.size ≤ gb128)); clear HB; have HB := n0_; have BK128 := n1_; have GW128 := n2_; have GE128 := n3_; clear n0_ n1_ n2_ n3_; clear hb hbox hg; have hcz29_0 : w28.cell? ⟨gb128, 0, none⟩ = some (.int .i64 0) := (blk_cell BK128.out 0).trans rfl; have hcz29_1 : w28.cell? ⟨gb128, 1, none⟩ = some (.int .i64 0) := (blk_cell BK128.out 1).trans rfl; have hfz29_0 := blk_frozen BK128.out 0; have hfz29_1 := blk_frozen BK128.out 1) | ((with_reducible refine gate_callee (f := 10) rfl ?_); refine goesL_ (some 22) rfl rfl Try.func10 (by kernel_rfl) rfl #[.int .i64 a0, .int .i64 a1, .int .i64 a2] rfl (by (try simp only [List.map_toArray, List.map_cons, List.map_nil]); first | done | rfl | (simp only [List.length_drop, List.length_take]; rfl)) ?_; (with_reducible refine (impl_NearestPair.calls k a0 a1 a2 t129 t130 t131 _ A5.out).mono ?_); rintro e w30 ⟨rfl, hb⟩; refine ⟨_, rfl, ?_⟩; have n0_ := Aside0.mk (blk_below (g := gb128) (o := .cells #[.int .i64 t125, .int .i64 t126] 23 (0, 0)) (by (with_reducible repeat (first | refine blk_drewN ?_ _ | refine blk_drew ?_ | refine blk_alloc ?_ _)); refine blk_put (cs := #[.int .i64 t125, .int .i64 0]) ?_ 1 _ rfl; (with_reducible repeat (first | refine blk_drewN ?_ _ | refine blk_drew ?_ | refine blk_alloc ?_ _)); refine blk_put (cs := #[.int .i64 0, .int .i64 0]) ?_ 0 _ rfl; (with_reducible repeat (first | refine blk_drewN ?_ _ | refine blk_drew ?_ | refine blk_alloc ?_ _)); exact BK128.out) hb); have n1_ := Aside0.mk (below_step (by repeat (first | (with_reducible first | exact HB.out | apply below_alloc | apply pw_below_drewN | apply below_drew1 | refine below_set ?_ GE128.out) | exact HB.out)) hb); clear BK128; clear HB; have BK128 := n0_; have HB := n1_; clear n0_ n1_; (try clear hb); (try clear hb2); (try clear hk); (try clear hi)) | ((with_reducible refine gate_dst (N := 9) rfl ?_); refine box_event ?hg (N := 9) ?hd (cs := #[.int .i64 0, .int .i64 0]) (t := 23) ?hr ?_; (case hd => rfl); (case hg => rfl); (case hr => first | (go_simp; done) | (go_simp; rfl)); intro gb132 hg w31 hbox hb; have n0_ := Aside0.mk (blk_below (g := gb128) (o := .cells #[.int .i64 t125, .int .i64 t126] 23 (0, 0)) (by (with_reducible repeat (first | refine blk_drewN ?_ _ | refine blk_drew ?_ | refine blk_alloc ?_ _)); exact BK128.out) hb); have n1_ := Aside0.mk (below_step (by repeat (first | (with_reducible first | exact HB.out | apply below_alloc | apply pw_below_drewN | apply below_drew1 | refine below_set ?_ GE128.out) | exact HB.out)) hb); have n2_ := Aside0.mk (hbox); have n3_ := Aside0.mk ((by rw [hg]; exact (below_size (by repeat (first | (with_reducible first | exact HB.out | apply below_alloc | apply pw_below_drewN | apply below_drew1 | refine below_set ?_ GE128.out) | exact HB.out))) : w.heap.size ≤ gb132)); have n4_ := Aside0.mk ((by rw [hg]; exact (below_size (by repeat (first | (with_reducible first | exact HB.out | apply below_alloc | apply pw_below_drewN | apply below_drew1 | refine below_set ?_ GE128.out) | exact HB.out))) : w.heap.size ≤ gb132)); have n5_ := Aside0.mk ((by rw [hg]; exact Nat.ne_of_lt (blk_lt (g := gb128) (o := .cells #[.int .i64 t125, .int .i64 t126] 23 (0, 0)) (by (with_reducible repeat (first | refine blk_drewN ?_ _ | refine blk_drew ?_ | refine blk_alloc ?_ _)); exact BK128.out)) : gb128 ≠ gb132)); have n6_ := Aside0.mk ((by rw [hg]; exact Nat.ne_of_gt (blk_lt (g := gb128) (o := .cells #[.int .i64 t125, .int .i64 t126] 23 (0, 0)) (by (with_reducible repeat (first | refine blk_drewN ?_ _ | refine blk_drew ?_ | refine blk_alloc ?_ _)); exact BK128.out)) : gb132 ≠ gb128)); clear BK128; clear HB; have BK128 := n0_; have HB := n1_; have BK132 := n2_; have GW132 := n3_; have GE132 := n4_; have NB128_132 := n5_; have NB132_128 := n6_; clear n0_ n1_ n2_ n3_ n4_ n5_ n6_; clear hb hbox hg; have hnb32 := NB132_128.out; have hnc32 := NB128_132.out; have hcz33_0 : w31.cell? ⟨gb132, 0, none⟩ = some (.int .i64 0) := (blk_cell BK132.out 0).trans rfl; have hcz33_1 : w31.cell? ⟨gb132, 1, none⟩ = some (.int .i64 0) := (blk_cell BK132.out 1).trans rfl; have hfz33_0 := blk_frozen BK132.out 0; have hfz33_1 := blk_frozen BK132.out 1; have hcz34_0 : w31.cell? ⟨gb128, 0, none⟩ = some (.int .i64 t125) := (blk_cell BK128.out 0).trans rfl; have hcz34_1 : w31.cell? ⟨gb128, 1, none⟩ = some (.int .i64 t126) := (blk_cell BK128.out 1).trans rfl; have hfz34_0 := blk_frozen BK128.out 0; have hfz34_1 := blk_frozen BK128.out 1) | ((with_reducible refine gate_callee (f := 11) rfl ?_); refine goesL_ (some 27) rfl rfl Try.func11 (by kernel_rfl) rfl #[.agg #[.int .i64 t129, .int .i64 t130], .agg #[.int .i64 t125, .int .i64 t126]] rfl (by (try simp only [List.map_toArray, List.map_cons, List.map_nil]); first | done | rfl | (simp only [List.length_drop, List.length_take]; rfl)) ?_; (with_reducible refine (laws_eqPair.calls t129 t130 t125 t126 false _ A6.out).mono ?_); rintro e w35 ⟨rfl, hb⟩; refine ⟨_, rfl, ?_⟩; have n0_ := Aside0.mk (blk_below (g := gb128) (o := .cells #[.int .i64 t125, .int .i64 t126] 23 (0, 0)) (by (with_reducible repeat (first | refine blk_drewN ?_ _ | refine blk_drew ?_ | refine blk_alloc ?_ _)); refine blk_far ?_ NB128_132.out _; (with_reducible repeat (first | refine blk_drewN ?_ _ | refine blk_drew ?_ | refine blk_alloc ?_ _)); refine blk_far ?_ NB128_132.out _; (with_reducible repeat (first | refine blk_drewN ?_ _ | refine blk_drew ?_ | refine blk_alloc ?_ _)); exact BK128.out) hb); have n1_ := Aside0.mk (blk_below (g := gb132) (o := .cells #[.int .i64 t129, .int .i64 t130] 23 (0, 0)) (by (with_reducible repeat (first | refine blk_drewN ?_ _ | refine blk_drew ?_ | refine blk_alloc ?_ _)); refine blk_put (cs := #[.int .i64 t129, .int .i64 0]) ?_ 1 _ rfl; (with_reducible repeat (first | refine blk_drewN ?_ _ | refine blk_drew ?_ | refine blk_alloc ?_ _)); refine blk_put (cs := #[.int .i64 0, .int .i64 0]) ?_ 0 _ rfl; (with_reducible repeat (first | refine blk_drewN ?_ _ | refine blk_drew ?_ | refine blk_alloc ?_ _)); exact BK132.out) hb); have n2_ := Aside0.mk (below_step (by repeat (first | (with_reducible first | exact HB.out | apply below_alloc | apply pw_below_drewN | apply below_drew1 | refine below_set ?_ GE128.out | refine below_set ?_ GE132.out) | exact HB.out)) hb); clear BK128; clear BK132; clear HB; have BK128 := n0_; have BK132 := n1_; have HB := n2_; clear n0_ n1_ n2_; (try clear hb); (try clear hb2); (try clear hk); (try clear hi)))
    go_ret
    exact ⟨by first | rfl | (simp [errW_none, errW_some] <;> rfl) | (simp [*, errW_none, errW_some] <;> rfl), by repeat (first | (with_reducible first | exact HB.out | apply below_alloc | apply pw_below_drewN | apply below_drew1 | refine below_set ?_ GE128.out | refine below_set ?_ GE132.out) | exact HB.out)⟩

/-- THE ONE PURE STATEMENT of laws_FnExactNearestPair: yours. -/
def laws_FnExactNearestPair.Pure : Prop := ∀ (a0 : Int) (a1 : Int) (a2 : Int), (Lit.int .i64 a0).wf = true → (Lit.int .i64 a1).wf = true → (Lit.int .i64 a2).wf = true → ∃ k, laws_FnExactNearestPair.f k a0 a1 a2 = some true
theorem laws_FnExactNearestPair.walk (P : laws_FnExactNearestPair.Pure) (a0 : Int) (a1 : Int) (a2 : Int) (w : World) (w0 : (Lit.int .i64 a0).wf = true) (w1 : (Lit.int .i64 a1).wf = true) (w2 : (Lit.int .i64 a2).wf = true) :
    Calls Try.prog 3 #[.int .i64 a0, .int .i64 a1, .int .i64 a2] w fun e w' => e = .returned (.bool true) ∧ Below w.heap.size w w' := by
  obtain ⟨k, h⟩ := P a0 a1 a2 w0 w1 w2
  refine (laws_FnExactNearestPair.calls k a0 a1 a2 true w h).mono ?_
  rintro e w' ⟨rfl, hd⟩
  exact ⟨rfl, hd⟩

end Go.Proofs.Ytofjjfaaadllmaa.GFnExactNearestPair
