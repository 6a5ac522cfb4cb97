-- Written by a program of this session (a copy of the kit's print program that takes contracts of one's own); Lean checks it.
import Derived.Test.YtofjjfaaadllmaaGFnTrainsFoundOfAllx0
import Derived.Test.YtofjjfaaadllmaaGFnTrainsFoundOfAllx2
namespace Go.Proofs.Ytofjjfaaadllmaa.GFnTrainsFoundOfAll
open Go.RowKit Go.Proofs.YtofjjfaaadllmaaW.PrintWords Go.Proofs.YtofjjfaaadllmaaW.PrintLast Go.Proofs.YtofjjfaaadllmaaW.PrintMore
attribute [local go_sem] max2_int min2_int max_two min_two max_three min_three max_four min_four IntWalk.i64_left   -- for this text's walks alone
set_option linter.unusedVariables false
set_option linter.unusedSimpArgs false

/-! ### impl_NearestPair: function 10 -/
def offW (nm dn d f : Int) : Int := let x := wrap64 (wrap64 (d * dn) - wrap64 (nm * f)); mx x (wrap64 (-x))
set_option maxHeartbeats 8000000 in
set_option maxRecDepth 100000 in
theorem near_off (d f dn nm : Int) (bd bn : Nat) (w : World) (hd : w.heap[bd]? = some (.cells #[.int .i64 dn] 3 (0, 0))) (hn : w.heap[bn]? = some (.cells #[.int .i64 nm] 3 (0, 0))) :
  Calls Try.prog 36 #[.agg #[.int .i64 d, .int .i64 f], .pointer (some ⟨bd, 0, none⟩), .pointer (some ⟨bn, 0, none⟩)] w fun e w' => e = .returned (.int .i64 (offW nm dn d f)) ∧ Below w.heap.size w w' := by
 have hu23 := Try.underlying23
 have HB := Aside0.mk (Below.refl w.heap.size w)
 have BKD := Aside0.mk hd
 have BKN := Aside0.mk hn
 clear hd hn
 go_enter Try.func36, Try.ntmps36
 go_wp2_with (first | ((with_reducible refine gate_dst (N := 3) rfl ?_); refine box_event ?hg (N := 3) ?hd (cs := #[.int .i64 d, .int .i64 f]) (t := 23) ?hr ?_; (case hd => rfl); (case hg => rfl); (case hr => first | (go_simp; done) | (go_simp; rfl)); intro g hg w5 hbox hb; have n0_ := Aside0.mk (below_step HB.out hb); have n1_ := Aside0.mk (hbox); have n2_ := Aside0.mk (blk_below BKD.out hb); have n3_ := Aside0.mk (blk_below BKN.out hb); clear HB BKD BKN; have HB := n0_; have BKP := n1_; have BKD := n2_; have BKN := n3_; clear n0_ n1_ n2_ n3_; clear hb hbox hg; have hcp0 : w5.cell? ⟨g, 0, none⟩ = some (.int .i64 d) := (blk_cell BKP.out 0).trans rfl; have hcp1 : w5.cell? ⟨g, 1, none⟩ = some (.int .i64 f) := (blk_cell BKP.out 1).trans rfl; have hcd : w5.cell? ⟨bd, 0, none⟩ = some (.int .i64 dn) := (blk_cell BKD.out 0).trans rfl; have hcn : w5.cell? ⟨bn, 0, none⟩ = some (.int .i64 nm) := (blk_cell BKN.out 0).trans rfl))
 all_goals go_ret
 all_goals refine ⟨?_, HB.out⟩
 ·
  simp only [offW, mx]
  rw [if_pos h]
  rfl
 ·
  simp only [offW, mx]
  rw [if_neg (by omega)]
  rfl
def cmpI (a b : Int) : Int := if a < b then -1 else if b < a then 1 else 0
theorem cmpI_eq (a b : Int) : cmp_Compare_int.f a b = some (cmpI a b) := by
 unfold cmp_Compare_int.f cmp_isNaN_int.f cmpI
 by_cases h : a < b
 ·
  simp [h]
 ·
  by_cases g : b < a
  ·
   simp [h, g]
  ·
   simp [h, g]
def NearI (W0 : World) (bb bo bd bn : Nat) (nm dn b0 b1 : Int) (w : World) : Prop :=
 w.heap[bb]? = some (.cells #[.int .i64 b0, .int .i64 b1] 23 (0, 0)) ∧ w.heap[bo]? = some (.cells #[.func (.func 36) #[] #[.pointer (some ⟨bd, 0, none⟩), .pointer (some ⟨bn, 0, none⟩)]] 46 (0, 0)) ∧
 w.heap[bd]? = some (.cells #[.int .i64 dn] 3 (0, 0)) ∧ w.heap[bn]? = some (.cells #[.int .i64 nm] 3 (0, 0)) ∧ W0.heap.size ≤ bb ∧ Below W0.heap.size W0 w
set_option maxHeartbeats 8000000 in
set_option maxRecDepth 100000 in
theorem near_first (W0 : World) (d f nm dn b1 : Int) (bb bo bd bn : Nat) (w : World) (h : NearI W0 bb bo bd bn nm dn 0 b1 w) :
  Calls Try.prog 38 #[.agg #[.int .i64 d, .int .i64 f], .pointer (some ⟨bb, 0, none⟩), .pointer (some ⟨bo, 0, none⟩)] w fun e w' => e = .returned (.tuple #[]) ∧ NearI W0 bb bo bd bn nm dn d f w' := by
 have hu23 := Try.underlying23
 have NO := Aside0.mk (blk_ne h.1 h.2.1 (by decide))
 have ND := Aside0.mk (blk_ne h.1 h.2.2.1 (by decide))
 have NN := Aside0.mk (blk_ne h.1 h.2.2.2.1 (by decide))
 obtain ⟨hb, ho, hd, hn, hge, hB⟩ := h
 have HB := Aside0.mk hB
 have GE := Aside0.mk hge
 have BKB := Aside0.mk hb
 have BKO := Aside0.mk ho
 have BKD := Aside0.mk hd
 have BKN := Aside0.mk hn
 clear hb ho hd hn hge hB
 go_enter Try.func38, Try.ntmps38
 go_wp2_with (first | ((with_reducible refine gate_dst (N := 3) rfl ?_); refine box_event ?hg (N := 3) ?hd (cs := #[.int .i64 d, .int .i64 f]) (t := 23) ?hr ?_; (case hd => rfl); (case hg => rfl); (case hr => first | (go_simp; done) | (go_simp; rfl)); intro g hg w5 hbox hb; have NBP := Aside0.mk ((by rw [hg]; exact Nat.ne_of_lt (blk_lt BKB.out)) : bb ≠ g); have n0_ := Aside0.mk (below_step HB.out hb); have n1_ := Aside0.mk (hbox); have n2_ := Aside0.mk (blk_below BKB.out hb); have n3_ := Aside0.mk (blk_below BKO.out hb); have n4_ := Aside0.mk (blk_below BKD.out hb); have n5_ := Aside0.mk (blk_below BKN.out hb); clear HB BKB BKO BKD BKN; have HB := n0_; have BKP := n1_; have BKB := n2_; have BKO := n3_; have BKD := n4_; have BKN := n5_; clear n0_ n1_ n2_ n3_ n4_ n5_; clear hb hbox hg; have hcp0 : w5.cell? ⟨g, 0, none⟩ = some (.int .i64 d) := (blk_cell BKP.out 0).trans rfl; have hcp1 : w5.cell? ⟨g, 1, none⟩ = some (.int .i64 f) := (blk_cell BKP.out 1).trans rfl; have hcb0 : w5.cell? ⟨bb, 0, none⟩ = some (.int .i64 0) := (blk_cell BKB.out 0).trans rfl; have hcb1 : w5.cell? ⟨bb, 1, none⟩ = some (.int .i64 b1) := (blk_cell BKB.out 1).trans rfl; have hfb0 := blk_frozen BKB.out 0; have hfb1 := blk_frozen BKB.out 1))
 refine bodyPost_ret (results_none rfl _ _ _) rfl ⟨rfl, ?_⟩
 exact ⟨blk_put (blk_put BKB.out 0 _ rfl) 1 _ rfl, blk_far (blk_far BKO.out NO.out.symm _) NO.out.symm _, blk_far (blk_far BKD.out ND.out.symm _) ND.out.symm _, blk_far (blk_far BKN.out NN.out.symm _) NN.out.symm _, GE.out, below_set (below_set HB.out GE.out) GE.out⟩
def orI (a b : Int) : Int := if a = 0 then b else a
def ordN (nm dn b0 b1 d f : Int) : Int := orI (cmpI (wrap64 (offW nm dn d f * b1)) (wrap64 (offW nm dn b0 b1 * f))) (cmpI (wrap64 (d + f)) (wrap64 (b0 + b1)))
theorem below_drawn0_ {w w' : World} (h : Drawn0 w w') : Below w.heap.size w w' := by
 obtain ⟨n, rfl⟩ := h
 exact pw_below_drewN (Below.refl _ _) n

structure NpC (W0 : World) (bb bo bd bn g : Nat) (nm dn b0 b1 d f : Int) where
 w : World
 hb : w.heap[bb]? = some (.cells #[.int .i64 b0, .int .i64 b1] 23 (0, 0))
 ho : w.heap[bo]? = some (.cells #[.func (.func 36) #[] #[.pointer (some ⟨bd, 0, none⟩), .pointer (some ⟨bn, 0, none⟩)]] 46 (0, 0))
 hd : w.heap[bd]? = some (.cells #[.int .i64 dn] 3 (0, 0))
 hn : w.heap[bn]? = some (.cells #[.int .i64 nm] 3 (0, 0))
 hg : w.heap[g]? = some (.cells #[.int .i64 d, .int .i64 f] 23 (0, 0))
 hB : Below W0.heap.size W0 w
section
variable {W0 : World} {bb bo bd bn g : Nat} {nm dn b0 b1 d f : Int}
def NpC.step (p : NpC W0 bb bo bd bn g nm dn b0 b1 d f) {w : World} (hb : Below p.w.heap.size p.w w) : NpC W0 bb bo bd bn g nm dn b0 b1 d f :=
 ⟨w, blk_below p.hb hb, blk_below p.ho hb, blk_below p.hd hb, blk_below p.hn hb, blk_below p.hg hb, below_step p.hB hb⟩
theorem NpC.cB0 (p : NpC W0 bb bo bd bn g nm dn b0 b1 d f) : p.w.cell? ⟨bb, 0, none⟩ = some (.int .i64 b0) := (blk_cell p.hb 0).trans rfl
theorem NpC.cB1 (p : NpC W0 bb bo bd bn g nm dn b0 b1 d f) : p.w.cell? ⟨bb, 1, none⟩ = some (.int .i64 b1) := (blk_cell p.hb 1).trans rfl
theorem NpC.cO (p : NpC W0 bb bo bd bn g nm dn b0 b1 d f) : p.w.cell? ⟨bo, 0, none⟩ = some (.func (.func 36) #[] #[.pointer (some ⟨bd, 0, none⟩), .pointer (some ⟨bn, 0, none⟩)]) := (blk_cell p.ho 0).trans rfl
theorem NpC.cG0 (p : NpC W0 bb bo bd bn g nm dn b0 b1 d f) : p.w.cell? ⟨g, 0, none⟩ = some (.int .i64 d) := (blk_cell p.hg 0).trans rfl
theorem NpC.cG1 (p : NpC W0 bb bo bd bn g nm dn b0 b1 d f) : p.w.cell? ⟨g, 1, none⟩ = some (.int .i64 f) := (blk_cell p.hg 1).trans rfl
theorem NpC.off (p : NpC W0 bb bo bd bn g nm dn b0 b1 d f) (x y : Int) : Calls Try.prog 36 #[.agg #[.int .i64 x, .int .i64 y], .pointer (some ⟨bd, 0, none⟩), .pointer (some ⟨bn, 0, none⟩)] p.w fun e w' => e = .returned (.int .i64 (offW nm dn x y)) ∧ ∃ q : NpC W0 bb bo bd bn g nm dn b0 b1 d f, w' = q.w :=
 (near_off x y dn nm bd bn p.w p.hd p.hn).mono fun _ _ ⟨he, hb⟩ => ⟨he, p.step hb, rfl⟩
theorem NpC.cmp (p : NpC W0 bb bo bd bn g nm dn b0 b1 d f) (x y : Int) : Calls Try.prog 40 #[.int .i64 x, .int .i64 y] p.w fun e w' => e = .returned (.int .i64 (cmpI x y)) ∧ ∃ q : NpC W0 bb bo bd bn g nm dn b0 b1 d f, w' = q.w :=
 (cmp_Compare_int.calls x y (cmpI x y) p.w (cmpI_eq x y)).mono fun _ _ ⟨he, hb⟩ => ⟨he, p.step (below_drawn0_ hb), rfl⟩
end

theorem NpC.store {W0 : World} {bb bo bd bn g : Nat} {nm dn b0 b1 d f : Int} (p : NpC W0 bb bo bd bn g nm dn b0 b1 d f) (ge : W0.heap.size ≤ bb) : NearI W0 bb bo bd bn nm dn d f ((p.w.setCell ⟨bb, 0, none⟩ (.int .i64 d)).setCell ⟨bb, 1, none⟩ (.int .i64 f)) :=
 have no := blk_ne p.hb p.ho (by decide)
 have nd := blk_ne p.hb p.hd (by decide)
 have nn := blk_ne p.hb p.hn (by decide)
 ⟨blk_put (blk_put p.hb 0 _ rfl) 1 _ rfl, blk_far (blk_far p.ho no.symm _) no.symm _, blk_far (blk_far p.hd nd.symm _) nd.symm _, blk_far (blk_far p.hn nn.symm _) nn.symm _, ge, below_set (below_set p.hB ge) ge⟩
theorem NpC.skip {W0 : World} {bb bo bd bn g : Nat} {nm dn b0 b1 d f : Int} (p : NpC W0 bb bo bd bn g nm dn b0 b1 d f) (ge : W0.heap.size ≤ bb) : NearI W0 bb bo bd bn nm dn b0 b1 p.w := ⟨p.hb, p.ho, p.hd, p.hn, ge, p.hB⟩
theorem or_eq (a b : Int) : cmp_Or_int.f 3 [a, b] = some (orI a b) := by
 unfold cmp_Or_int.f orI
 have w1 : wrap64 1 = 1 := by unfold wrap64; omega
 have w2 : wrap64 2 = 2 := by unfold wrap64; omega
 by_cases ha : a = 0
 ·
  by_cases hb : b = 0
  ·
   simp [cmp_Or_int.l0, rd, rdOf, ha, hb, w1, w2]
  ·
   simp [cmp_Or_int.l0, rd, rdOf, ha, hb, w1, w2]
 ·
  simp [cmp_Or_int.l0, rd, rdOf, ha]
set_option maxHeartbeats 8000000 in
set_option maxRecDepth 100000 in
theorem near_next (W0 : World) (d f nm dn b0 b1 n0 n1 : Int) (bb bo bd bn : Nat) (w : World) (hne : b0 ≠ 0) (h : NearI W0 bb bo bd bn nm dn b0 b1 w)
  (hc : if ordN nm dn b0 b1 d f < 0 then n0 = d ∧ n1 = f else n0 = b0 ∧ n1 = b1) :
  Calls Try.prog 38 #[.agg #[.int .i64 d, .int .i64 f], .pointer (some ⟨bb, 0, none⟩), .pointer (some ⟨bo, 0, none⟩)] w fun e w' => e = .returned (.tuple #[]) ∧ NearI W0 bb bo bd bn nm dn n0 n1 w' := by
 have hu23 := Try.underlying23
 have NO := Aside0.mk (blk_ne h.1 h.2.1 (by decide))
 have ND := Aside0.mk (blk_ne h.1 h.2.2.1 (by decide))
 have NN := Aside0.mk (blk_ne h.1 h.2.2.2.1 (by decide))
 obtain ⟨hb, ho, hd, hn, hge, hB⟩ := h
 have HB := Aside0.mk hB
 have GE := Aside0.mk hge
 have BKB := Aside0.mk hb
 have BKO := Aside0.mk ho
 have BKD := Aside0.mk hd
 have BKN := Aside0.mk hn
 have HC := Aside0.mk hc
 have z0 : (b0 == 0) = false := beq_eq_false_iff_ne.2 hne
 clear hb ho hd hn hge hB hc hne
 go_enter Try.func38, Try.ntmps38
 go_wp2_with (first | ((with_reducible refine gate_dst (N := 3) rfl ?_); refine box_event ?hg (N := 3) ?hd (cs := #[.int .i64 d, .int .i64 f]) (t := 23) ?hr ?_; (case hd => rfl); (case hg => rfl); (case hr => first | (go_simp; done) | (go_simp; rfl)); intro g hg w5 hbox hb; have NBP := Aside0.mk ((by rw [hg]; exact Nat.ne_of_lt (blk_lt BKB.out)) : bb ≠ g); have n0_ := Aside0.mk (below_step HB.out hb); have n1_ := Aside0.mk (hbox); have n2_ := Aside0.mk (blk_below BKB.out hb); have n3_ := Aside0.mk (blk_below BKO.out hb); have n4_ := Aside0.mk (blk_below BKD.out hb); have n5_ := Aside0.mk (blk_below BKN.out hb); clear HB BKB BKO BKD BKN; have HB := n0_; have BKP := n1_; have BKB := n2_; have BKO := n3_; have BKD := n4_; have BKN := n5_; clear n0_ n1_ n2_ n3_ n4_ n5_; clear hb hbox hg; have hcp0 : w5.cell? ⟨g, 0, none⟩ = some (.int .i64 d) := (blk_cell BKP.out 0).trans rfl; have hcp1 : w5.cell? ⟨g, 1, none⟩ = some (.int .i64 f) := (blk_cell BKP.out 1).trans rfl; have hcb0 : w5.cell? ⟨bb, 0, none⟩ = some (.int .i64 b0) := (blk_cell BKB.out 0).trans rfl; have hcb1 : w5.cell? ⟨bb, 1, none⟩ = some (.int .i64 b1) := (blk_cell BKB.out 1).trans rfl; have hfb0 := blk_frozen BKB.out 0; have hfb1 := blk_frozen BKB.out 1; have hco : w5.cell? ⟨bo, 0, none⟩ = some (.func (.func 36) #[] #[.pointer (some ⟨bd, 0, none⟩), .pointer (some ⟨bn, 0, none⟩)]) := (blk_cell BKO.out 0).trans rfl))

 haveI ne_ : Nonempty (NpC W0 bb bo bd bn g nm dn b0 b1 d f) := ⟨⟨w5, BKB.out, BKO.out, BKD.out, BKN.out, BKP.out, HB.out⟩⟩
 have cB0 := fun p : NpC W0 bb bo bd bn g nm dn b0 b1 d f => p.cB0
 have cB1 := fun p : NpC W0 bb bo bd bn g nm dn b0 b1 d f => p.cB1
 have cO := fun p : NpC W0 bb bo bd bn g nm dn b0 b1 d f => p.cO
 have cG0 := fun p : NpC W0 bb bo bd bn g nm dn b0 b1 d f => p.cG0
 have cG1 := fun p : NpC W0 bb bo bd bn g nm dn b0 b1 d f => p.cG1
 have tO : Aside0 (∀ (p : NpC W0 bb bo bd bn g nm dn b0 b1 d f) (x y : Int), _) := ⟨fun p x y => p.off x y⟩
 have tC : Aside0 (∀ (p : NpC W0 bb bo bd bn g nm dn b0 b1 d f) (x y : Int), _) := ⟨fun p x y => p.cmp x y⟩
 refine Lib.wp_region_quiet_tail (fun w' => ∃ p : NpC W0 bb bo bd bn g nm dn b0 b1 d f, w' = p.w) 24 (by kernel_rfl) (by kernel_rfl) ⟨NpC.step (⟨w5, BKB.out, BKO.out, BKD.out, BKN.out, BKP.out, HB.out⟩ : NpC W0 bb bo bd bn g nm dn b0 b1 d f) (below_drew (Below.refl _ _)), rfl⟩ ?_
 simp only [List.take_succ_cons, List.take_zero, List.drop_succ_cons, List.drop_zero]
 repeat (go_big_quiet_step (first | (with_reducible exact tO.out _ _ _) | (with_reducible exact tC.out _ _ _)))
 refine wpQuiet_nil ?_
 intro _ hw'
 obtain ⟨p, rfl⟩ := hw'
 clear cB0 cB1 cO cG0 cG1 ne_
 have HC1 := HC.out
 unfold ordN at HC1
 clear HC
 generalize cmpI (wrap64 (offW nm dn d f * b1)) (wrap64 (offW nm dn b0 b1 * f)) = c1 at HC1 ⊢
 generalize cmpI (wrap64 (d + f)) (wrap64 (b0 + b1)) = c2 at HC1 ⊢
 by_cases z : orI c1 c2 < 0
 ·
  rw [if_pos z] at HC1
  obtain ⟨e0_, e1_⟩ := HC1
  replace e0_ := e0_.symm
  replace e1_ := e1_.symm
  subst e0_ e1_
  have zb : decide (orI c1 c2 < 0) = true := decide_eq_true z
  clear z
  go_wp2_with (first | ((with_reducible refine gate_dst (N := 32) rfl ?_); (refine Kd.R_lit (Kd.int .i64) _ 3 ?hg (N := 32) ?hd (xs := ([c1, c2] : List Int)) (inner := [.int .i64 c1, .int .i64 c2]) (ok := fun _ => True) (okp := fun _ => True) ?hr ?hp (fun _ hk => hk) trivial (Below.refl _ _) (Nat.le_refl _) (by simp) ?_; (case hd => rfl); (case hg => rfl); (case hr => first | (go_simp; done) | (go_simp; rfl)); (case hp => exact Kd.reps_scalar (enc := Value.int .i64) [c1, c2]); intro v8 w8 ho hb hg_ hnew_; clear hg_ hnew_; obtain ⟨A8, c8, rfl, hc8, hC8⟩ := Kd.R_reads ho; have HC8 := Aside0.mk hC8; have HL8 := Aside0.mk hc8; have HQ := Aside0.mk hb; clear ho hC8 hc8 hb; have q0 : w8.cell? ⟨g, 0, none⟩ = some (.int .i64 d) := (p.step HQ.out).cG0; have q1 : w8.cell? ⟨g, 1, none⟩ = some (.int .i64 f) := (p.step HQ.out).cG1; have q2 : w8.cell? ⟨bb, 0, none⟩ = some (.int .i64 b0) := (p.step HQ.out).cB0; have q3 : w8.cell? ⟨bb, 1, none⟩ = some (.int .i64 b1) := (p.step HQ.out).cB1; have f0 : w8.frozen? ⟨bb, 0, none⟩ = false := blk_frozen (p.step HQ.out).hb 0; have f1 : w8.frozen? ⟨bb, 1, none⟩ = false := blk_frozen (p.step HQ.out).hb 1)) | (go_at_call 39; (refine (cmp_Or_int.calls 3 A8 c8 [c1, c2] (orI c1 c2) _ HC8.out HL8.out (or_eq c1 c2)).mono ?_); rintro e w9 ⟨rfl, ⟨nd, rfl⟩⟩))
  go_end0
  exact ⟨rfl, NpC.store (NpC.step (p.step HQ.out) (pw_below_drewN (Below.refl _ _) nd)) GE.out⟩
 ·
  rw [if_neg z] at HC1
  obtain ⟨e0_, e1_⟩ := HC1
  replace e0_ := e0_.symm
  replace e1_ := e1_.symm
  subst e0_ e1_
  have zb : decide (orI c1 c2 < 0) = false := decide_eq_false z
  clear z
  go_wp2_with (first | ((with_reducible refine gate_dst (N := 32) rfl ?_); (refine Kd.R_lit (Kd.int .i64) _ 3 ?hg (N := 32) ?hd (xs := ([c1, c2] : List Int)) (inner := [.int .i64 c1, .int .i64 c2]) (ok := fun _ => True) (okp := fun _ => True) ?hr ?hp (fun _ hk => hk) trivial (Below.refl _ _) (Nat.le_refl _) (by simp) ?_; (case hd => rfl); (case hg => rfl); (case hr => first | (go_simp; done) | (go_simp; rfl)); (case hp => exact Kd.reps_scalar (enc := Value.int .i64) [c1, c2]); intro v8 w8 ho hb hg_ hnew_; clear hg_ hnew_; obtain ⟨A8, c8, rfl, hc8, hC8⟩ := Kd.R_reads ho; have HC8 := Aside0.mk hC8; have HL8 := Aside0.mk hc8; have HQ := Aside0.mk hb; clear ho hC8 hc8 hb; have q0 : w8.cell? ⟨g, 0, none⟩ = some (.int .i64 d) := (p.step HQ.out).cG0; have q1 : w8.cell? ⟨g, 1, none⟩ = some (.int .i64 f) := (p.step HQ.out).cG1; have q2 : w8.cell? ⟨bb, 0, none⟩ = some (.int .i64 b0) := (p.step HQ.out).cB0; have q3 : w8.cell? ⟨bb, 1, none⟩ = some (.int .i64 b1) := (p.step HQ.out).cB1; have f0 : w8.frozen? ⟨bb, 0, none⟩ = false := blk_frozen (p.step HQ.out).hb 0; have f1 : w8.frozen? ⟨bb, 1, none⟩ = false := blk_frozen (p.step HQ.out).hb 1)) | (go_at_call 39; (refine (cmp_Or_int.calls 3 A8 c8 [c1, c2] (orI c1 c2) _ HC8.out HL8.out (or_eq c1 c2)).mono ?_); rintro e w9 ⟨rfl, ⟨nd, rfl⟩⟩))
  go_end0
  exact ⟨rfl, NpC.skip (NpC.step (p.step HQ.out) (pw_below_drewN (Below.refl _ _) nd)) GE.out⟩

def nrN (nm dn d f b0 b1 : Int) : Int × Int := if b0 = 0 then (d, f) else if ordN nm dn b0 b1 d f < 0 then (d, f) else (b0, b1)
theorem near_visit (W0 : World) (d f nm dn b0 b1 : Int) (bb bo bd bn : Nat) (w : World) (h : NearI W0 bb bo bd bn nm dn b0 b1 w) :
  Calls Try.prog 38 #[.agg #[.int .i64 d, .int .i64 f], .pointer (some ⟨bb, 0, none⟩), .pointer (some ⟨bo, 0, none⟩)] w fun e w' => e = .returned (.tuple #[]) ∧ NearI W0 bb bo bd bn nm dn (nrN nm dn d f b0 b1).1 (nrN nm dn d f b0 b1).2 w' := by
 by_cases z : b0 = 0
 ·
  subst z
  rw [nrN, if_pos rfl]
  exact near_first W0 d f nm dn b1 bb bo bd bn w h
 ·
  refine near_next W0 d f nm dn b0 b1 _ _ bb bo bd bn w z h ?_
  rw [nrN, if_neg z]
  by_cases y : ordN nm dn b0 b1 d f < 0
  ·
   rw [if_pos y, if_pos y]
   exact ⟨rfl, rfl⟩
  ·
   rw [if_neg y, if_neg y]
   exact ⟨rfl, rfl⟩
def nrF (nm dn m : Int) : Nat → Int → Int → Int → Int → Option (Int × Int)
 | 0, _, _, _, _ => none
 | g + 1, d, f, b0, b1 => if d ≤ m then (if f ≤ m then nrF nm dn m g d (f + 1) (nrN nm dn d f b0 b1).1 (nrN nm dn d f b0 b1).2 else nrF nm dn m g (d + 1) 6 b0 b1) else some (b0, b1)
def ntF (k : Nat) (a0 a1 a2 : Int) : Option (Int × Int × Bool) :=
 (impl_areRatio.f a0 a1 a2).bind fun t => if t = true then (nrF a0 a1 a2 k 6 6 0 0).bind fun o => some (o.1, o.2, true) else some (0, 0, false)
theorem nr_range {a0 a1 a2 : Int} (h : impl_areRatio.f a0 a1 a2 = some true) : 6 ≤ a2 ∧ a2 ≤ 120 := by
 unfold impl_areRatio.f impl_areTeeth.f impl_within.f at h
 by_cases h1 : a0 ≥ 1 <;> by_cases h2 : a1 ≥ 1 <;> by_cases h3 : a0 ≤ 1000 <;> by_cases h4 : a1 ≤ 1000 <;> by_cases h5 : a2 ≥ 6 <;> by_cases h6 : a2 ≤ 120 <;> simp_all
set_option maxHeartbeats 8000000 in
set_option maxRecDepth 100000 in
theorem each_near (q0 q1 : Option Addr) (m : Int) (hm : 5 ≤ m) (hm' : m ≤ 1000) (I : Int → Int → World → Prop)
  (hstep : ∀ d f w, 6 ≤ d → d ≤ m → 6 ≤ f → f ≤ m → I d f w → Calls Try.prog 38 #[.agg #[.int .i64 d, .int .i64 f], .pointer q0, .pointer q1] w fun e w' => e = .returned (.tuple #[]) ∧ I d (f + 1) w')
  (hnext : ∀ d w, I d (m + 1) w → I (d + 1) 6 w) (w : World) (h0 : I 6 6 w) :
  Calls Try.prog 37 #[.int .i64 m, .func (.func 38) #[] #[.pointer q0, .pointer q1]] w fun e w' => e = .returned (.tuple #[]) ∧ I (m + 1) 6 w' := by
 have HM := Aside0.mk (And.intro hm hm')
 clear hm hm'
 have HS := Aside0.mk hstep
 have HN := Aside0.mk hnext
 have H0 := Aside0.mk h0
 clear hstep hnext h0
 go_enter Try.func37, Try.ntmps37
 go_wp2
 go_loopg [4] m.toNat (fun gk v4 w' => ∃ (d : Int), v4 = .int .i64 d ∧ Aside0 (6 ≤ d ∧ d ≤ m + 1 ∧ d + gk = m + 6) ∧ Aside0 (I d 6 w'))
 case atStart => exact ⟨6, rfl, ⟨by have := HM.out; omega⟩, H0⟩
 case round =>
  obtain ⟨d, rfl, HD, HI⟩ := hrel
  by_cases hlt : d ≤ m
  ·
   obtain ⟨k1, rfl⟩ : ∃ k1, gk = k1 + 1 := ⟨gk - 1, by have := HD.out; omega⟩
   have c1 : decide (d ≤ m) = true := decide_eq_true hlt
   have HL := Aside0.mk hlt
   clear hlt
   go_wp2
   go_loopg [5] m.toNat (fun gk v5 w' => ∃ (f : Int), v5 = .int .i64 f ∧ Aside0 (6 ≤ f ∧ f ≤ m + 1 ∧ f + gk = m + 6) ∧ Aside0 (I d f w'))
   case atStart => exact ⟨6, rfl, ⟨by have := HM.out; have := HL.out; have := HD.out; omega⟩, HI⟩
   case round =>
    try clear c1
    obtain ⟨f, rfl, HF, HI⟩ := hrel
    by_cases hlf : f ≤ m
    ·
     obtain ⟨k2, rfl⟩ : ∃ k2, gk = k2 + 1 := ⟨gk - 1, by have := HF.out; omega⟩
     have c2 : decide (f ≤ m) = true := decide_eq_true hlf
     have HLF := Aside0.mk hlf
     clear hlf
     go_wp2_with (first | (go_at_call 38; (refine (HS.out d f _ ?ha ?hb ?hc ?hd HI.out).mono ?_); (case ha => have := HD.out; omega); (case hb => exact HL.out); (case hc => have := HF.out; omega); (case hd => exact HLF.out); rintro e w1 ⟨rfl, hi⟩; have HI1 := Aside0.mk hi; clear hi))
     go_roundg k2
     case measure => omega
     case rel =>
      refine ⟨f + 1, ?_, ⟨by have := HF.out; have := HLF.out; omega⟩, HI1⟩
      have := HF.out
      have := HLF.out
      have := HM.out
      rw [IntWalk.wrap64_in (f + 1) ⟨by omega, by omega⟩]
    ·
     have c2 : decide (f ≤ m) = false := decide_eq_false hlf
     have HLF := Aside0.mk hlf
     clear hlf
     go_wp2
     go_roundg k1
     case measure => omega
     case rel =>
      refine ⟨d + 1, ?_, ⟨by have := HD.out; have := HL.out; have := HM.out; omega⟩, ⟨HN.out d _ ?_⟩⟩
      ·
       have := HD.out
       have := HL.out
       have := HM.out
       rw [IntWalk.wrap64_in (d + 1) ⟨by omega, by omega⟩]
      ·
       have e : f = m + 1 := by
        have := HF.out
        have := HLF.out
        omega
       rw [← e]
       exact HI.out
  ·
   have c1 : decide (d ≤ m) = false := decide_eq_false hlt
   have HL := Aside0.mk hlt
   clear hlt
   go_wp2
   go_end0
   refine ⟨rfl, ?_⟩
   have e : d = m + 1 := by
    have := HD.out
    have := HL.out
    omega
   rw [← e]
   exact HI.out

theorem near_each (k : Nat) (W0 : World) (nm dn m : Int) (bb bo bd bn : Nat) (r0 r1 : Int) (hm : 5 ≤ m) (hm' : m ≤ 1000) (w : World) (h : NearI W0 bb bo bd bn nm dn 0 0 w) (hr : nrF nm dn m k 6 6 0 0 = some (r0, r1)) :
  Calls Try.prog 37 #[.int .i64 m, .func (.func 38) #[] #[.pointer (some ⟨bb, 0, none⟩), .pointer (some ⟨bo, 0, none⟩)]] w fun e w' => e = .returned (.tuple #[]) ∧ NearI W0 bb bo bd bn nm dn r0 r1 w' := by
 refine (each_near _ _ m hm hm' (fun d f w => ∃ g b0 b1, nrF nm dn m g d f b0 b1 = some (r0, r1) ∧ NearI W0 bb bo bd bn nm dn b0 b1 w) ?_ ?_ w ⟨k, 0, 0, hr, h⟩).mono ?_
 ·
  rintro d f w h1 h2 h3 h4 ⟨g, b0, b1, hg, hI⟩
  cases g with
  | zero => simp [nrF] at hg
  | succ g =>
   simp only [nrF, if_pos h2, if_pos h4] at hg
   exact (near_visit W0 d f nm dn b0 b1 bb bo bd bn w hI).mono fun e w' ⟨he, hi⟩ => ⟨he, g, _, _, hg, hi⟩
 ·
  rintro d w ⟨g, b0, b1, hg, hI⟩
  cases g with
  | zero => simp [nrF] at hg
  | succ g =>
   simp only [nrF] at hg
   by_cases h2 : d ≤ m
   ·
    rw [if_pos h2, if_neg (by omega)] at hg
    exact ⟨g, b0, b1, hg, hI⟩
   ·
    rw [if_neg h2] at hg
    refine ⟨g + 1, b0, b1, ?_, hI⟩
    simp only [nrF]
    rw [if_neg (by omega)]
    exact hg
 ·
  rintro e w' ⟨he, g, b0, b1, hg, hI⟩
  cases g with
  | zero => simp [nrF] at hg
  | succ g =>
   simp only [nrF] at hg
   rw [if_neg (by omega)] at hg
   have hg := Option.some.inj hg
   simp only [Prod.mk.injEq] at hg
   obtain ⟨rfl, rfl⟩ := hg
   exact ⟨he, hI⟩
set_option maxHeartbeats 8000000 in
set_option maxRecDepth 100000 in
theorem near_walk (k : Nat) (a0 : Int) (a1 : Int) (a2 : Int) (r1 r2 : Int) (r3 : Bool) (w : World) (h : ntF k a0 a1 a2 = some (r1, r2, r3)) :
  Calls Try.prog 10 #[.int .i64 a0, .int .i64 a1, .int .i64 a2] w fun e w' => e = .returned (.tuple #[.agg #[.int .i64 r1, .int .i64 r2], .bool r3]) ∧ Below w.heap.size w w' := by
 have hu23 := Try.underlying23
 have hmf : ∀ (fn : Fn) (first cap : Array Value) (w : World), (Instr.makeFunc fn first cap).run Try.prog w = .ok (.func fn first cap) w := fun _ _ _ _ => rfl
 have hsf : ∀ (fn : Fn) (first cap : Array Value) (a : Addr) (m : Mode) (w : World), (store a (.func fn first cap) m).run Try.prog w = stored Try.prog w a (.func fn first cap) m := fun _ _ _ _ _ _ => run_store _ _ _ _ _ rfl
 have HB := Aside0.mk (Below.refl w.heap.size w)
 unfold ntF at h
 obtain ⟨t, ht, h⟩ := Option.bind_eq_some_iff.mp h
 have HA := Aside0.mk ht
 cases t with
 | false =>
  rw [if_neg (by decide)] at h
  clear ht
  simp only [Option.some.injEq, Prod.mk.injEq] at h
  obtain ⟨rfl, rfl, rfl⟩ := h
  go_enter Try.func10, Try.ntmps10
  go_wp2_with (first | ((with_reducible refine gate_dst (N := 3) rfl ?_); refine box_event ?hg (N := 3) ?hd (cs := #[.int .i64 a0]) (t := 3) ?hr ?_; (case hd => rfl); (case hg => rfl); (case hr => first | (go_simp; done) | (go_simp; rfl)); intro bn hg w1 hbox hb; have BKbn := Aside0.mk hbox; have n0_ := Aside0.mk (below_step (by repeat (first | (with_reducible first | exact HB.out | apply below_alloc | apply pw_below_drewN | apply below_drew1) | exact HB.out)) hb); clear HB ; have HB := n0_; clear n0_; clear hb hbox hg; ) | ((with_reducible refine gate_dst (N := 4) rfl ?_); refine box_event ?hg (N := 4) ?hd (cs := #[.int .i64 a1]) (t := 3) ?hr ?_; (case hd => rfl); (case hg => rfl); (case hr => first | (go_simp; done) | (go_simp; rfl)); intro bd hg w2 hbox hb; have BKbd := Aside0.mk hbox; have n0_ := Aside0.mk (below_step (by repeat (first | (with_reducible first | exact HB.out | apply below_alloc | apply pw_below_drewN | apply below_drew1) | exact HB.out)) hb); have n1_ := Aside0.mk (blk_below (by (with_reducible repeat (first | refine blk_drewN ?_ _ | refine blk_drew ?_ | refine blk_alloc ?_ _)); exact BKbn.out) hb); clear HB BKbn; have HB := n0_; have BKbn := n1_; clear n0_ n1_; clear hb hbox hg; ) | ((with_reducible refine gate_dst (N := 6) rfl ?_); refine box_event ?hg (N := 6) ?hd (cs := #[.int .i64 0, .int .i64 0]) (t := 23) ?hr ?_; (case hd => rfl); (case hg => rfl); (case hr => first | (go_simp; done) | (go_simp; rfl)); intro br hg w3 hbox hb; have BKbr := Aside0.mk hbox; have GR := Aside0.mk (by rw [hg]; exact (below_size (by repeat (first | (with_reducible first | exact HB.out | apply below_alloc | apply pw_below_drewN | apply below_drew1) | exact HB.out))) : w.heap.size ≤ br); have n0_ := Aside0.mk (below_step (by repeat (first | (with_reducible first | exact HB.out | apply below_alloc | apply pw_below_drewN | apply below_drew1) | exact HB.out)) hb); have n1_ := Aside0.mk (blk_below (by (with_reducible repeat (first | refine blk_drewN ?_ _ | refine blk_drew ?_ | refine blk_alloc ?_ _)); exact BKbn.out) hb); have n2_ := Aside0.mk (blk_below (by (with_reducible repeat (first | refine blk_drewN ?_ _ | refine blk_drew ?_ | refine blk_alloc ?_ _)); exact BKbd.out) hb); clear HB BKbn BKbd; have HB := n0_; have BKbn := n1_; have BKbd := n2_; clear n0_ n1_ n2_; clear hb hbox hg; have hcBKbn0 : w3.cell? ⟨bn, 0, none⟩ = some (.int .i64 a0) := (blk_cell BKbn.out 0).trans rfl; have hcBKbd0 : w3.cell? ⟨bd, 0, none⟩ = some (.int .i64 a1) := (blk_cell BKbd.out 0).trans rfl; have hcBKbr0 : w3.cell? ⟨br, 0, none⟩ = some (.int .i64 0) := (blk_cell BKbr.out 0).trans rfl; have hfcBKbr0 := blk_frozen BKbr.out 0; have hcBKbr1 : w3.cell? ⟨br, 1, none⟩ = some (.int .i64 0) := (blk_cell BKbr.out 1).trans rfl; have hfcBKbr1 := blk_frozen BKbr.out 1) | (go_at_call 35; (refine (impl_areRatio.calls a0 a1 a2 _ _ HA.out).mono ?_); rintro e w' ⟨rfl, ⟨nd, rfl⟩⟩))
  refine bodyPost_ret (results_ct rfl _ _ br 23 #[.int .i64 0, .int .i64 0] (0, 0) _ rfl (by refine blk_put (cs := #[.int .i64 0, .int .i64 0]) ?_ 1 _ rfl; refine blk_put (cs := #[.int .i64 0, .int .i64 0]) ?_ 0 _ rfl; exact (by (with_reducible repeat (first | refine blk_drewN ?_ _ | refine blk_drew ?_ | refine blk_alloc ?_ _)); exact BKbr.out)) Try.underlying23 rfl (by kernel_rfl)) rfl ⟨rfl, (by repeat (first | (with_reducible first | exact HB.out | apply below_alloc | apply pw_below_drewN | apply below_drew1 | refine below_set ?_ GR.out) | exact HB.out))⟩
 | true =>
  rw [if_pos rfl] at h
  obtain ⟨o, ho, h⟩ := Option.bind_eq_some_iff.mp h
  simp only [Option.some.injEq, Prod.mk.injEq] at h
  obtain ⟨rfl, rfl, rfl⟩ := h
  have HR := Aside0.mk ho
  have HG := Aside0.mk (nr_range ht)
  clear ht ho
  go_enter Try.func10, Try.ntmps10
  go_wp2_with (first | ((with_reducible refine gate_dst (N := 3) rfl ?_); refine box_event ?hg (N := 3) ?hd (cs := #[.int .i64 a0]) (t := 3) ?hr ?_; (case hd => rfl); (case hg => rfl); (case hr => first | (go_simp; done) | (go_simp; rfl)); intro bn hg w1 hbox hb; have BKbn := Aside0.mk hbox; have n0_ := Aside0.mk (below_step (by repeat (first | (with_reducible first | exact HB.out | apply below_alloc | apply pw_below_drewN | apply below_drew1) | exact HB.out)) hb); clear HB ; have HB := n0_; clear n0_; clear hb hbox hg; ) | ((with_reducible refine gate_dst (N := 4) rfl ?_); refine box_event ?hg (N := 4) ?hd (cs := #[.int .i64 a1]) (t := 3) ?hr ?_; (case hd => rfl); (case hg => rfl); (case hr => first | (go_simp; done) | (go_simp; rfl)); intro bd hg w2 hbox hb; have BKbd := Aside0.mk hbox; have n0_ := Aside0.mk (below_step (by repeat (first | (with_reducible first | exact HB.out | apply below_alloc | apply pw_below_drewN | apply below_drew1) | exact HB.out)) hb); have n1_ := Aside0.mk (blk_below (by (with_reducible repeat (first | refine blk_drewN ?_ _ | refine blk_drew ?_ | refine blk_alloc ?_ _)); exact BKbn.out) hb); clear HB BKbn; have HB := n0_; have BKbn := n1_; clear n0_ n1_; clear hb hbox hg; ) | ((with_reducible refine gate_dst (N := 6) rfl ?_); refine box_event ?hg (N := 6) ?hd (cs := #[.int .i64 0, .int .i64 0]) (t := 23) ?hr ?_; (case hd => rfl); (case hg => rfl); (case hr => first | (go_simp; done) | (go_simp; rfl)); intro br hg w3 hbox hb; have BKbr := Aside0.mk hbox; have GR := Aside0.mk (by rw [hg]; exact (below_size (by repeat (first | (with_reducible first | exact HB.out | apply below_alloc | apply pw_below_drewN | apply below_drew1) | exact HB.out))) : w.heap.size ≤ br); have n0_ := Aside0.mk (below_step (by repeat (first | (with_reducible first | exact HB.out | apply below_alloc | apply pw_below_drewN | apply below_drew1) | exact HB.out)) hb); have n1_ := Aside0.mk (blk_below (by (with_reducible repeat (first | refine blk_drewN ?_ _ | refine blk_drew ?_ | refine blk_alloc ?_ _)); exact BKbn.out) hb); have n2_ := Aside0.mk (blk_below (by (with_reducible repeat (first | refine blk_drewN ?_ _ | refine blk_drew ?_ | refine blk_alloc ?_ _)); exact BKbd.out) hb); clear HB BKbn BKbd; have HB := n0_; have BKbn := n1_; have BKbd := n2_; clear n0_ n1_ n2_; clear hb hbox hg; have hcBKbn0 : w3.cell? ⟨bn, 0, none⟩ = some (.int .i64 a0) := (blk_cell BKbn.out 0).trans rfl; have hcBKbd0 : w3.cell? ⟨bd, 0, none⟩ = some (.int .i64 a1) := (blk_cell BKbd.out 0).trans rfl; have hcBKbr0 : w3.cell? ⟨br, 0, none⟩ = some (.int .i64 0) := (blk_cell BKbr.out 0).trans rfl; have hfcBKbr0 := blk_frozen BKbr.out 0; have hcBKbr1 : w3.cell? ⟨br, 1, none⟩ = some (.int .i64 0) := (blk_cell BKbr.out 1).trans rfl; have hfcBKbr1 := blk_frozen BKbr.out 1; have HB0 := HB; have BR3 := BKbr; clear HB; have HB := Aside0.mk (Below.refl w3.heap.size w3)) | ((with_reducible refine gate_dst (N := 8) rfl ?_); refine box_event ?hg (N := 8) ?hd (cs := #[.int .i64 0, .int .i64 0]) (t := 23) ?hr ?_; (case hd => rfl); (case hg => rfl); (case hr => first | (go_simp; done) | (go_simp; rfl)); intro bb hg w4 hbox hb; have BKbb := Aside0.mk hbox; have GE := Aside0.mk (by rw [hg]; exact (below_size (by repeat (first | (with_reducible first | exact HB.out | apply below_alloc | apply pw_below_drewN | apply below_drew1) | exact HB.out))) : w3.heap.size ≤ bb); have NR := Aside0.mk ((by rw [hg]; exact Nat.ne_of_lt (blk_lt (by (with_reducible repeat (first | refine blk_drewN ?_ _ | refine blk_drew ?_ | refine blk_alloc ?_ _)); exact BKbr.out))) : br ≠ bb); have n0_ := Aside0.mk (below_step (by repeat (first | (with_reducible first | exact HB.out | apply below_alloc | apply pw_below_drewN | apply below_drew1) | exact HB.out)) hb); have n1_ := Aside0.mk (blk_below (by (with_reducible repeat (first | refine blk_drewN ?_ _ | refine blk_drew ?_ | refine blk_alloc ?_ _)); exact BKbn.out) hb); have n2_ := Aside0.mk (blk_below (by (with_reducible repeat (first | refine blk_drewN ?_ _ | refine blk_drew ?_ | refine blk_alloc ?_ _)); exact BKbd.out) hb); have n3_ := Aside0.mk (blk_below (by (with_reducible repeat (first | refine blk_drewN ?_ _ | refine blk_drew ?_ | refine blk_alloc ?_ _)); exact BKbr.out) hb); clear HB BKbn BKbd BKbr; have HB := n0_; have BKbn := n1_; have BKbd := n2_; have BKbr := n3_; clear n0_ n1_ n2_ n3_; clear hb hbox hg; have hdBKbn0 : w4.cell? ⟨bn, 0, none⟩ = some (.int .i64 a0) := (blk_cell BKbn.out 0).trans rfl; have hdBKbd0 : w4.cell? ⟨bd, 0, none⟩ = some (.int .i64 a1) := (blk_cell BKbd.out 0).trans rfl; have hdBKbr0 : w4.cell? ⟨br, 0, none⟩ = some (.int .i64 0) := (blk_cell BKbr.out 0).trans rfl; have hfdBKbr0 := blk_frozen BKbr.out 0; have hdBKbr1 : w4.cell? ⟨br, 1, none⟩ = some (.int .i64 0) := (blk_cell BKbr.out 1).trans rfl; have hfdBKbr1 := blk_frozen BKbr.out 1; have hdBKbb0 : w4.cell? ⟨bb, 0, none⟩ = some (.int .i64 0) := (blk_cell BKbb.out 0).trans rfl; have hfdBKbb0 := blk_frozen BKbb.out 0; have hdBKbb1 : w4.cell? ⟨bb, 1, none⟩ = some (.int .i64 0) := (blk_cell BKbb.out 1).trans rfl; have hfdBKbb1 := blk_frozen BKbb.out 1) | ((with_reducible refine gate_dst (N := 9) rfl ?_); (refine box_event ?hg (N := 9) ?hd (cs := #[.nilFunc]) (t := 46) ?hr ?_; (case hd => rfl); (case hg => rfl); (case hr => first | (go_simp; done) | (go_simp; rfl)); intro bo hg w5 hbox hb; have BKbo := Aside0.mk hbox; have GO := Aside0.mk (by rw [hg]; exact (below_size (below_set (below_set HB.out GE.out) GE.out)) : w3.heap.size ≤ bo); have n0_ := Aside0.mk (below_step (below_set (below_set HB.out GE.out) GE.out) hb); have n1_ := Aside0.mk (blk_below (blk_far (blk_far BKbn.out (blk_ne BKbn.out BKbb.out (by decide)) _) (blk_ne BKbn.out BKbb.out (by decide)) _) hb); have n2_ := Aside0.mk (blk_below (blk_far (blk_far BKbd.out (blk_ne BKbd.out BKbb.out (by decide)) _) (blk_ne BKbd.out BKbb.out (by decide)) _) hb); have n3_ : Aside0 (w5.heap[bb]? = some (.cells #[.int .i64 0, .int .i64 0] 23 (0, 0))) := ⟨blk_below (blk_put (cs := #[.int .i64 0, .int .i64 0]) (blk_put (cs := #[.int .i64 0, .int .i64 0]) BKbb.out 0 _ rfl) 1 _ rfl) hb⟩; clear HB BKbn BKbd BKbb; have HB := n0_; have BKbn := n1_; have BKbd := n2_; have BKbb := n3_; clear n0_ n1_ n2_ n3_; clear hb hbox hg; have hfo0 := blk_frozen BKbo.out 0; have hco0 : w5.cell? ⟨bo, 0, none⟩ = some (.nilFunc) := (blk_cell BKbo.out 0).trans rfl)) | (go_at_call 35; (refine (impl_areRatio.calls a0 a1 a2 _ _ HA.out).mono ?_); rintro e w' ⟨rfl, ⟨nd, rfl⟩⟩) | (go_at_call 37; ((refine (near_each k w3 a0 a1 a2 bb bo bd bn o.1 o.2 (by have := HG.out; omega) (by have := HG.out; omega) _ ⟨blk_far BKbb.out (blk_ne BKbb.out BKbo.out (by decide)) _, blk_put BKbo.out 0 _ rfl, blk_far BKbd.out (blk_ne BKbd.out BKbo.out (by decide)) _, blk_far BKbn.out (blk_ne BKbn.out BKbo.out (by decide)) _, GE.out, below_set HB.out GO.out⟩ HR.out).mono ?_); rintro e w10 ⟨rfl, hI⟩; obtain ⟨h1, h2, h3, h4, hge, hB⟩ := hI; have HBB := Aside0.mk hB; have BRR := Aside0.mk (blk_below BR3.out hB); have BBB := Aside0.mk h1; clear h1 h2 h3 h4 hge hB; have hb0 : w10.cell? ⟨bb, 0, none⟩ = some (.int .i64 o.1) := (blk_cell BBB.out 0).trans rfl; have hb1 : w10.cell? ⟨bb, 1, none⟩ = some (.int .i64 o.2) := (blk_cell BBB.out 1).trans rfl; have hr0 : w10.cell? ⟨br, 0, none⟩ = some (.int .i64 0) := (blk_cell BRR.out 0).trans rfl; have hr1 : w10.cell? ⟨br, 1, none⟩ = some (.int .i64 0) := (blk_cell BRR.out 1).trans rfl; have fr0 := blk_frozen BRR.out 0; have fr1 := blk_frozen BRR.out 1)))
  refine bodyPost_ret (results_ct rfl _ _ br 23 #[.int .i64 o.1, .int .i64 o.2] (0, 0) _ rfl (by refine blk_put (cs := #[.int .i64 o.1, .int .i64 0]) ?_ 1 _ rfl; refine blk_put (cs := #[.int .i64 0, .int .i64 0]) ?_ 0 _ rfl; exact BRR.out) Try.underlying23 rfl (by kernel_rfl)) rfl ⟨rfl, below_set (below_set (below_step HB0.out HBB.out) GR.out) GR.out⟩

def impl_NearestPair.f (k : Nat) (a0 : Int) (a1 : Int) (a2 : Int) : Option (Int × Int × Bool) := ntF k a0 a1 a2
theorem impl_NearestPair.calls (k : Nat) (a0 : Int) (a1 : Int) (a2 : Int) (r1 : Int) (r2 : Int) (r3 : Bool) (w : World) (h : impl_NearestPair.f k a0 a1 a2 = some (r1, r2, r3)) :
  Calls Try.prog 10 #[.int .i64 a0, .int .i64 a1, .int .i64 a2] w fun e w' => e = .returned (.tuple #[.agg #[.int .i64 r1, .int .i64 r2], .bool r3]) ∧ Below w.heap.size w w' := near_walk k a0 a1 a2 r1 r2 r3 w h

/-! ### impl_isDial: function 44 -/
def impl_isDial.f (a0 : Int) : Option (Bool) := (impl_within.f a0 2 24).bind fun t123 => (some t123)
set_option maxHeartbeats 8000000 in
set_option maxRecDepth 100000 in
theorem impl_isDial.calls (a0 : Int) (r : Bool) (w : World) (h : impl_isDial.f a0 = some r) :
  Calls Try.prog 44 #[.int .i64 a0] w fun e w' => e = .returned (.bool r) ∧ Drawn0 w w' := by
 have H : ((impl_within.f a0 2 24).bind fun t123 => (some t123)) = some r := h
 clear h
 replace H := Option.bind_eq_some_iff.mp H
 obtain ⟨t123, A20, H⟩ := H
 replace H : (some t123) = some r := H
 have A2 := Aside0.mk A20
 clear A20
 as_aux_lemma =>
  obtain rfl := Option.some.inj H
  go_enter Try.func44, Try.ntmps44
  go_wp2_with (first | ((with_reducible refine gate_callee (f := 55) rfl ?_); refine goesL_ (some 4) rfl rfl Try.func55 (by kernel_rfl) rfl #[.int .i64 a0, .int .i64 2, .int .i64 24] rfl (by (try simp only [List.map_toArray, List.map_cons, List.map_nil]); first | done | rfl | (simp only [List.length_drop, List.length_take]; rfl)) ?_; (with_reducible refine (impl_within.calls a0 2 24 t123 _ A2.out).mono ?_); rintro e w' ⟨rfl, ⟨nd, rfl⟩⟩; refine ⟨_, rfl, ?_⟩))
  go_ret
  exact ⟨by first | rfl | (simp; done) | (simp [*]; done), by repeat (first | exact Drawn0.refl _ | apply Drawn0.step)⟩

/-! ### impl_works: function 46 -/
def wkS (d f : Int) : Int := wrap64 (d + f)
def wkP (h d f : Int) : Int := wrap64 (wrap64 (h * d) + f)
def wkC (h d f : Int) : Int := wrap64 (Int.tdiv (wrap64 (wkS d f * f)) (wkP h d f))
def wkN (h m d f : Int) (out : List (List S23)) : List (List S23) :=
 if Int.tmod (wrap64 (wkS d f * f)) (wkP h d f) = 0 then (if (6 ≤ wkC h d f ∧ wkC h d f ≤ m) ∧ (6 ≤ wrap64 (wkS d f - wkC h d f) ∧ wrap64 (wkS d f - wkC h d f) ≤ m) then out ++ [[⟨d, f⟩, ⟨wkC h d f, wrap64 (wkS d f - wkC h d f)⟩]] else out) else out
structure WkI (W0 : World) (bh bm bo : Nat) (h m : Int) (out : List (List S23)) (w : World) : Prop where
 hh : w.heap[bh]? = some (.cells #[.int .i64 h] 3 (0, 0))
 hm : w.heap[bm]? = some (.cells #[.int .i64 m] 3 (0, 0))
 ho : ∃ v, w.heap[bo]? = some (.cells #[v] 34 (0, 0)) ∧ Kd.S (Kd.slice 23 k23) 28 w W0.heap.size (fun _ => True) v out
 ge : W0.heap.size ≤ bo
 hB : Below W0.heap.size W0 w
theorem within_w (a b c : Int) : impl_within.f a b c = some (decide (b ≤ a ∧ a ≤ c)) := by
 unfold impl_within.f
 by_cases g : a ≥ b
 ·
  rw [if_pos g]
  congr 1
  exact decide_eq_decide.2 ⟨fun x => ⟨g, x⟩, fun x => x.2⟩
 ·
  rw [if_neg g]
  congr 1
  exact (decide_eq_false (fun x => g x.1)).symm

structure WkJ (W0 : World) (bh bm bo q : Nat) (h m : Int) (v : Value) (out : List (List S23)) (w : World) : Prop where
 hh : w.heap[bh]? = some (.cells #[.int .i64 h] 3 (0, 0))
 hm : w.heap[bm]? = some (.cells #[.int .i64 m] 3 (0, 0))
 ho : w.heap[bo]? = some (.cells #[v] 34 (0, 0))
 hS : Kd.S (Kd.slice 23 k23) 28 w W0.heap.size (fun k => True ∧ k ≠ q) v out
 ge : W0.heap.size ≤ bo
 geq : W0.heap.size ≤ q
 hB : Below W0.heap.size W0 w
 nh : bh ≠ q
 nm : bm ≠ q
 no : bo ≠ q
section
variable {W0 : World} {bh bm bo q : Nat} {h m : Int} {v : Value} {out : List (List S23)} {w : World}
theorem WkJ.put (j : WkJ W0 bh bm bo q h m v out w) (i : Nat) (x : Value) : WkJ W0 bh bm bo q h m v out (w.setCell ⟨q, i, none⟩ x) :=
 ⟨blk_far j.hh j.nh x, blk_far j.hm j.nm x, blk_far j.ho j.no x, Kd.S_far (p := ⟨q, i, none⟩) j.hS (fun k hk => hk.2) x, j.ge, j.geq, below_set j.hB j.geq, j.nh, j.nm, j.no⟩
theorem WkJ.drewN (j : WkJ W0 bh bm bo q h m v out w) (n : Nat) : WkJ W0 bh bm bo q h m v out (w.drewN n) :=
 ⟨j.hh, j.hm, j.ho, Kd.S_drewN j.hS n, j.ge, j.geq, pw_below_drewN j.hB n, j.nh, j.nm, j.no⟩
structure WkL (W0 : World) (bh bm bo : Nat) (h m : Int) (v : Value) (out : List (List S23)) (u : Value) (ys : List S23) (w : World) : Prop where
 hh : w.heap[bh]? = some (.cells #[.int .i64 h] 3 (0, 0))
 hm : w.heap[bm]? = some (.cells #[.int .i64 m] 3 (0, 0))
 ho : w.heap[bo]? = some (.cells #[v] 34 (0, 0))
 hS : Kd.S (Kd.slice 23 k23) 28 w W0.heap.size (fun k => True ∧ some k ≠ u.ownBlock) v out
 hR : Kd.R k23 23 w W0.heap.size (fun _ => True) u ys
 ge : W0.heap.size ≤ bo
 hB : Below W0.heap.size W0 w
theorem WkJ.lit (j : WkJ W0 bh bm bo q h m v out w) {w8 : World} {u : Value} {ys : List S23} (hb : Below w.heap.size w w8) (ho : Kd.R k23 23 w8 w.heap.size (fun _ => True) u ys) : WkL W0 bh bm bo h m v out u ys w8 :=
 ⟨blk_below j.hh hb, blk_below j.hm hb, blk_below j.ho hb, Kd.S_mono (Kd.S_elder' j.hS (Kd.R_base ho) hb) (fun _ hk => ⟨trivial, hk.2⟩), Kd.R_lower ho (below_size j.hB), j.ge, below_step j.hB hb⟩
theorem WkL.apart {u : Value} {ys : List S23} (l : WkL W0 bh bm bo h m v out u ys w) : ∀ k, some k = u.ownBlock → True ∧ some k ≠ v.ownBlock :=
 fun k hk => ⟨trivial, ((Kd.R_apart' l.hR (Kd.S_typed l.hS) (by decide)).1 k hk.symm).2⟩
theorem WkL.grown {u : Value} {ys : List S23} (l : WkL W0 bh bm bo h m v out u ys w) {w1 : World} (hg : w.grownBy w1 v.ownBlock) {g t : Nat} {cs : Array Value} (hb : w.heap[g]? = some (.cells cs t (0, 0))) (ht : 28 ≠ t) : w1.heap[g]? = some (.cells cs t (0, 0)) :=
 (hg.block g (blk_lt hb) (Kd.S_ne l.hS hb ht)).trans hb
theorem WkL.done {u v1 : Value} {ys : List S23} {out1 : List (List S23)} (l : WkL W0 bh bm bo h m v out u ys w) {w1 : World} (hg : w.grownBy w1 v.ownBlock) (hs : Kd.S (Kd.slice 23 k23) 28 w1 W0.heap.size (fun _ => True) v1 out1) (hb : Below W0.heap.size W0 w1) : WkI W0 bh bm bo h m out1 (w1.setCell ⟨bo, 0, none⟩ v1) :=
 have o := l.grown hg l.ho (by decide)
 have nh := blk_ne l.hh l.ho (by decide)
 have nm := blk_ne l.hm l.ho (by decide)
 ⟨blk_far (l.grown hg l.hh (by decide)) nh _, blk_far (l.grown hg l.hm (by decide)) nm _, ⟨v1, blk_put o 0 _ rfl, Kd.S_set hs o (by decide) 0 _⟩, l.ge, below_set hb l.ge⟩
theorem WkJ.toI (j : WkJ W0 bh bm bo q h m v out w) : WkI W0 bh bm bo h m out w := ⟨j.hh, j.hm, ⟨v, j.ho, Kd.S_mono j.hS (fun _ _ => trivial)⟩, j.ge, j.hB⟩
end

set_option maxHeartbeats 8000000 in
set_option maxRecDepth 100000 in
theorem works_rem (W0 : World) (d f h m : Int) (bh bm bo : Nat) (out : List (List S23)) (w : World) (hI : WkI W0 bh bm bo h m out w) (hp : ¬ wkP h d f = 0) (ht : ¬ Int.tmod (wrap64 (wkS d f * f)) (wkP h d f) = 0) :
  Calls Try.prog 57 #[.agg #[.int .i64 d, .int .i64 f], .pointer (some ⟨bh, 0, none⟩), .pointer (some ⟨bm, 0, none⟩), .pointer (some ⟨bo, 0, none⟩)] w fun e w' => e = .returned (.tuple #[]) ∧ WkI W0 bh bm bo h m out w' := by
 have hu23 := Try.underlying23
 obtain ⟨hh, hm, ⟨v, ho, hS⟩, hge, hB⟩ := hI
 obtain ⟨A, c, rfl, hc, hC⟩ := Kd.S_reads hS
 have Nh := Aside0.mk (blk_ne ho hh (by decide))
 have Nm := Aside0.mk (blk_ne ho hm (by decide))
 have HB := Aside0.mk hB
 have GE := Aside0.mk hge
 have BKh := Aside0.mk hh
 have BKm := Aside0.mk hm
 have BKo := Aside0.mk ho
 have HO := Aside0.mk hS
 have p0 : (wrap64 (wrap64 (h * d) + f) == 0) = false := beq_eq_false_iff_ne.2 hp
 have p1 : ¬ wrap64 (wrap64 (h * d) + f) = 0 := hp
 clear hh hm ho hS hge hB hC hc hp
 have t0 : (Int.tmod (wrap64 (wrap64 (d + f) * f)) (wrap64 (wrap64 (h * d) + f)) != 0) = true := bne_iff_ne.2 ht
 clear ht
 go_enter Try.func57, Try.ntmps57
 go_wp2_with (first | ((with_reducible refine gate_dst (N := 4) rfl ?_); (refine box_event ?hg (N := 4) ?hd (cs := #[.int .i64 d, .int .i64 f]) (t := 23) ?hr ?_; (case hd => rfl); (case hg => rfl); (case hr => first | (go_simp; done) | (go_simp; rfl)); intro g hg w1 hbox hb; have BKg := Aside0.mk hbox; have n0_ := Aside0.mk (below_step (by repeat (first | (with_reducible first | exact HB.out | apply below_alloc | apply pw_below_drewN | apply below_drew1) | exact HB.out)) hb); have n1_ := Aside0.mk (blk_below (by (with_reducible repeat (first | refine blk_drewN ?_ _ | refine blk_drew ?_ | refine blk_alloc ?_ _)); exact BKh.out) hb); have n2_ := Aside0.mk (blk_below (by (with_reducible repeat (first | refine blk_drewN ?_ _ | refine blk_drew ?_ | refine blk_alloc ?_ _)); exact BKm.out) hb); have n3_ := Aside0.mk (blk_below (by (with_reducible repeat (first | refine blk_drewN ?_ _ | refine blk_drew ?_ | refine blk_alloc ?_ _)); exact BKo.out) hb); have n4_ := Aside0.mk (Kd.S_below (by (with_reducible repeat (first | apply Kd.S_alloc | apply Kd.S_drewN | apply Kd.S_drew)); exact HO.out) hb); clear HB BKh BKm BKo HO; have HB := n0_; have BKh := n1_; have BKm := n2_; have BKo := n3_; have HO := n4_; clear n0_ n1_ n2_ n3_ n4_; clear hb hbox hg; have haBKh0 : w1.cell? ⟨bh, 0, none⟩ = some (.int .i64 h) := (blk_cell BKh.out 0).trans rfl; have haBKm0 : w1.cell? ⟨bm, 0, none⟩ = some (.int .i64 m) := (blk_cell BKm.out 0).trans rfl; have haBKo0 : w1.cell? ⟨bo, 0, none⟩ = some (.slice A out.length c) := (blk_cell BKo.out 0).trans rfl; have hfaBKo0 := blk_frozen BKo.out 0; have haBKg0 : w1.cell? ⟨g, 0, none⟩ = some (.int .i64 d) := (blk_cell BKg.out 0).trans rfl; have haBKg1 : w1.cell? ⟨g, 1, none⟩ = some (.int .i64 f) := (blk_cell BKg.out 1).trans rfl)))
 refine bodyPost_ret (results_none rfl _ _ _) rfl ⟨rfl, ⟨(by (with_reducible repeat (first | refine blk_drewN ?_ _ | refine blk_drew ?_ | refine blk_alloc ?_ _)); exact BKh.out), (by (with_reducible repeat (first | refine blk_drewN ?_ _ | refine blk_drew ?_ | refine blk_alloc ?_ _)); exact BKm.out), ⟨_, (by (with_reducible repeat (first | refine blk_drewN ?_ _ | refine blk_drew ?_ | refine blk_alloc ?_ _)); exact BKo.out), (by (with_reducible repeat (first | apply Kd.S_alloc | apply Kd.S_drewN | apply Kd.S_drew)); exact HO.out)⟩, GE.out, (by repeat (first | (with_reducible first | exact HB.out | apply below_alloc | apply pw_below_drewN | apply below_drew1) | exact HB.out))⟩⟩

set_option maxHeartbeats 8000000 in
set_option maxRecDepth 100000 in
theorem works_one (W0 : World) (d f h m : Int) (bh bm bo : Nat) (out : List (List S23)) (w : World) (hI : WkI W0 bh bm bo h m out w) (hp : ¬ wkP h d f = 0) (ht : Int.tmod (wrap64 (wkS d f * f)) (wkP h d f) = 0) (h1 : ¬ (6 ≤ wkC h d f ∧ wkC h d f ≤ m)) :
  Calls Try.prog 57 #[.agg #[.int .i64 d, .int .i64 f], .pointer (some ⟨bh, 0, none⟩), .pointer (some ⟨bm, 0, none⟩), .pointer (some ⟨bo, 0, none⟩)] w fun e w' => e = .returned (.tuple #[]) ∧ WkI W0 bh bm bo h m out w' := by
 have hu23 := Try.underlying23
 obtain ⟨hh, hm, ⟨v, ho, hS⟩, hge, hB⟩ := hI
 obtain ⟨A, c, rfl, hc, hC⟩ := Kd.S_reads hS
 have Nh := Aside0.mk (blk_ne ho hh (by decide))
 have Nm := Aside0.mk (blk_ne ho hm (by decide))
 have HB := Aside0.mk hB
 have GE := Aside0.mk hge
 have BKh := Aside0.mk hh
 have BKm := Aside0.mk hm
 have BKo := Aside0.mk ho
 have HO := Aside0.mk hS
 have p0 : (wrap64 (wrap64 (h * d) + f) == 0) = false := beq_eq_false_iff_ne.2 hp
 have p1 : ¬ wrap64 (wrap64 (h * d) + f) = 0 := hp
 clear hh hm ho hS hge hB hC hc hp
 have t0 : (Int.tmod (wrap64 (wrap64 (d + f) * f)) (wrap64 (wrap64 (h * d) + f)) != 0) = false := by
  have : Int.tmod (wrap64 (wrap64 (d + f) * f)) (wrap64 (wrap64 (h * d) + f)) = 0 := ht
  rw [this]
  rfl
 clear ht
 have d1 : decide (6 ≤ wrap64 (Int.tdiv (wrap64 (wrap64 (d + f) * f)) (wrap64 (wrap64 (h * d) + f))) ∧ wrap64 (Int.tdiv (wrap64 (wrap64 (d + f) * f)) (wrap64 (wrap64 (h * d) + f))) ≤ m) = false := decide_eq_false h1
 clear h1
 go_enter Try.func57, Try.ntmps57
 go_upto_region 6 with (first | ((with_reducible refine gate_dst (N := 4) rfl ?_); (refine box_event ?hg (N := 4) ?hd (cs := #[.int .i64 d, .int .i64 f]) (t := 23) ?hr ?_; (case hd => rfl); (case hg => rfl); (case hr => first | (go_simp; done) | (go_simp; rfl)); intro g hg w1 hbox hb; have BKg := Aside0.mk hbox; have n0_ := Aside0.mk (below_step (by repeat (first | (with_reducible first | exact HB.out | apply below_alloc | apply pw_below_drewN | apply below_drew1) | exact HB.out)) hb); have n1_ := Aside0.mk (blk_below (by (with_reducible repeat (first | refine blk_drewN ?_ _ | refine blk_drew ?_ | refine blk_alloc ?_ _)); exact BKh.out) hb); have n2_ := Aside0.mk (blk_below (by (with_reducible repeat (first | refine blk_drewN ?_ _ | refine blk_drew ?_ | refine blk_alloc ?_ _)); exact BKm.out) hb); have n3_ := Aside0.mk (blk_below (by (with_reducible repeat (first | refine blk_drewN ?_ _ | refine blk_drew ?_ | refine blk_alloc ?_ _)); exact BKo.out) hb); have n4_ := Aside0.mk (Kd.S_below (by (with_reducible repeat (first | apply Kd.S_alloc | apply Kd.S_drewN | apply Kd.S_drew)); exact HO.out) hb); clear HB BKh BKm BKo HO; have HB := n0_; have BKh := n1_; have BKm := n2_; have BKo := n3_; have HO := n4_; clear n0_ n1_ n2_ n3_ n4_; clear hb hbox hg; have haBKh0 : w1.cell? ⟨bh, 0, none⟩ = some (.int .i64 h) := (blk_cell BKh.out 0).trans rfl; have haBKm0 : w1.cell? ⟨bm, 0, none⟩ = some (.int .i64 m) := (blk_cell BKm.out 0).trans rfl; have haBKo0 : w1.cell? ⟨bo, 0, none⟩ = some (.slice A out.length c) := (blk_cell BKo.out 0).trans rfl; have hfaBKo0 := blk_frozen BKo.out 0; have haBKg0 : w1.cell? ⟨g, 0, none⟩ = some (.int .i64 d) := (blk_cell BKg.out 0).trans rfl; have haBKg1 : w1.cell? ⟨g, 1, none⟩ = some (.int .i64 f) := (blk_cell BKg.out 1).trans rfl)) | ((with_reducible refine gate_dst (N := 7) rfl ?_); (refine box_event ?hg (N := 7) ?hd (cs := #[.int .i64 0, .int .i64 0]) (t := 23) ?hr ?_; (case hd => rfl); (case hg => rfl); (case hr => first | (go_simp; done) | (go_simp; rfl)); intro q hg w2 hbox hb; have BKq := Aside0.mk hbox; have n0_ := Aside0.mk (below_step (by repeat (first | (with_reducible first | exact HB.out | apply below_alloc | apply pw_below_drewN | apply below_drew1) | exact HB.out)) hb); have n1_ := Aside0.mk (blk_below (by (with_reducible repeat (first | refine blk_drewN ?_ _ | refine blk_drew ?_ | refine blk_alloc ?_ _)); exact BKh.out) hb); have n2_ := Aside0.mk (blk_below (by (with_reducible repeat (first | refine blk_drewN ?_ _ | refine blk_drew ?_ | refine blk_alloc ?_ _)); exact BKm.out) hb); have n3_ := Aside0.mk (blk_below (by (with_reducible repeat (first | refine blk_drewN ?_ _ | refine blk_drew ?_ | refine blk_alloc ?_ _)); exact BKo.out) hb); have n4_ := Aside0.mk (blk_below (by (with_reducible repeat (first | refine blk_drewN ?_ _ | refine blk_drew ?_ | refine blk_alloc ?_ _)); exact BKg.out) hb); have n5_ := Aside0.mk (Kd.S_below (Kd.S_elderB (by (with_reducible repeat (first | apply Kd.S_alloc | apply Kd.S_drewN | apply Kd.S_drew)); exact HO.out) q (Nat.le_of_eq hg.symm)) hb); have GEq := Aside0.mk (by rw [hg]; exact (below_size (by repeat (first | (with_reducible first | exact HB.out | apply below_alloc | apply pw_below_drewN | apply below_drew1) | exact HB.out))) : W0.heap.size ≤ q); have NBKhq := Aside0.mk ((by rw [hg]; exact Nat.ne_of_lt (blk_lt (by (with_reducible repeat (first | refine blk_drewN ?_ _ | refine blk_drew ?_ | refine blk_alloc ?_ _)); exact BKh.out))) : bh ≠ q); have NBKmq := Aside0.mk ((by rw [hg]; exact Nat.ne_of_lt (blk_lt (by (with_reducible repeat (first | refine blk_drewN ?_ _ | refine blk_drew ?_ | refine blk_alloc ?_ _)); exact BKm.out))) : bm ≠ q); have NBKoq := Aside0.mk ((by rw [hg]; exact Nat.ne_of_lt (blk_lt (by (with_reducible repeat (first | refine blk_drewN ?_ _ | refine blk_drew ?_ | refine blk_alloc ?_ _)); exact BKo.out))) : bo ≠ q); have NBKgq := Aside0.mk ((by rw [hg]; exact Nat.ne_of_lt (blk_lt (by (with_reducible repeat (first | refine blk_drewN ?_ _ | refine blk_drew ?_ | refine blk_alloc ?_ _)); exact BKg.out))) : g ≠ q); clear HB BKh BKm BKo BKg HO; have HB := n0_; have BKh := n1_; have BKm := n2_; have BKo := n3_; have BKg := n4_; have HO := n5_; clear n0_ n1_ n2_ n3_ n4_ n5_; clear hb hbox hg; have hbBKh0 : w2.cell? ⟨bh, 0, none⟩ = some (.int .i64 h) := (blk_cell BKh.out 0).trans rfl; have hbBKm0 : w2.cell? ⟨bm, 0, none⟩ = some (.int .i64 m) := (blk_cell BKm.out 0).trans rfl; have hbBKo0 : w2.cell? ⟨bo, 0, none⟩ = some (.slice A out.length c) := (blk_cell BKo.out 0).trans rfl; have hfbBKo0 := blk_frozen BKo.out 0; have hbBKg0 : w2.cell? ⟨g, 0, none⟩ = some (.int .i64 d) := (blk_cell BKg.out 0).trans rfl; have hbBKg1 : w2.cell? ⟨g, 1, none⟩ = some (.int .i64 f) := (blk_cell BKg.out 1).trans rfl; have hbBKq0 : w2.cell? ⟨q, 0, none⟩ = some (.int .i64 0) := (blk_cell BKq.out 0).trans rfl; have hfbBKq0 := blk_frozen BKq.out 0; have hbBKq1 : w2.cell? ⟨q, 1, none⟩ = some (.int .i64 0) := (blk_cell BKq.out 1).trans rfl; have hfbBKq1 := blk_frozen BKq.out 1; have hnq1 := NBKgq.out; have hnq2 := NBKgq.out.symm; have hnq3 := NBKmq.out; have hnq4 := NBKmq.out.symm; have hnq5 := NBKoq.out; have hnq6 := NBKoq.out.symm)))
 have J := Aside0.mk (show WkJ W0 bh bm bo q h m (.slice A out.length c) out (((w2.setCell ⟨q, 0, none⟩ (.int .i64 (wrap64 (Int.tdiv (wrap64 (wrap64 (d + f) * f)) (wrap64 (wrap64 (h * d) + f)))))).setCell ⟨q, 1, none⟩ (.int .i64 0)).setCell ⟨q, 1, none⟩ (.int .i64 (wrap64 (wrap64 (d + f) - wrap64 (Int.tdiv (wrap64 (wrap64 (d + f) * f)) (wrap64 (wrap64 (h * d) + f))))))) by (with_reducible repeat (first | apply WkJ.drewN | apply WkJ.put)); exact ⟨BKh.out, BKm.out, BKo.out, HO.out, GE.out, GEq.out, HB.out, NBKhq.out, NBKmq.out, NBKoq.out⟩)
 have GG : Aside0 ((((w2.setCell ⟨q, 0, none⟩ (.int .i64 (wrap64 (Int.tdiv (wrap64 (wrap64 (d + f) * f)) (wrap64 (wrap64 (h * d) + f)))))).setCell ⟨q, 1, none⟩ (.int .i64 0)).setCell ⟨q, 1, none⟩ (.int .i64 (wrap64 (wrap64 (d + f) - wrap64 (Int.tdiv (wrap64 (wrap64 (d + f) * f)) (wrap64 (wrap64 (h * d) + f))))))).heap[g]? = some (.cells #[.int .i64 d, .int .i64 f] 23 (0, 0))) := ⟨blk_far (blk_far (blk_far BKg.out NBKgq.out _) NBKgq.out _) NBKgq.out _⟩
 have hz1 : (((w2.setCell ⟨q, 0, none⟩ (.int .i64 (wrap64 (Int.tdiv (wrap64 (wrap64 (d + f) * f)) (wrap64 (wrap64 (h * d) + f)))))).setCell ⟨q, 1, none⟩ (.int .i64 0)).setCell ⟨q, 1, none⟩ (.int .i64 (wrap64 (wrap64 (d + f) - wrap64 (Int.tdiv (wrap64 (wrap64 (d + f) * f)) (wrap64 (wrap64 (h * d) + f))))))).cell? ⟨q, 1, none⟩ = some (.int .i64 (wrap64 (wrap64 (d + f) - wrap64 (Int.tdiv (wrap64 (wrap64 (d + f) * f)) (wrap64 (wrap64 (h * d) + f)))))) := (blk_cell (cs := #[.int .i64 (wrap64 (Int.tdiv (wrap64 (wrap64 (d + f) * f)) (wrap64 (wrap64 (h * d) + f)))), .int .i64 (wrap64 (wrap64 (d + f) - wrap64 (Int.tdiv (wrap64 (wrap64 (d + f) * f)) (wrap64 (wrap64 (h * d) + f)))))]) (t := 23) (by refine blk_put (cs := #[.int .i64 (wrap64 (Int.tdiv (wrap64 (wrap64 (d + f) * f)) (wrap64 (wrap64 (h * d) + f)))), .int .i64 0]) ?_ 1 _ rfl; refine blk_put (cs := #[.int .i64 (wrap64 (Int.tdiv (wrap64 (wrap64 (d + f) * f)) (wrap64 (wrap64 (h * d) + f)))), .int .i64 0]) ?_ 1 _ rfl; refine blk_put (cs := #[.int .i64 0, .int .i64 0]) ?_ 0 _ rfl; exact BKq.out) 1).trans rfl
 have hz0 : (((w2.setCell ⟨q, 0, none⟩ (.int .i64 (wrap64 (Int.tdiv (wrap64 (wrap64 (d + f) * f)) (wrap64 (wrap64 (h * d) + f)))))).setCell ⟨q, 1, none⟩ (.int .i64 0)).setCell ⟨q, 1, none⟩ (.int .i64 (wrap64 (wrap64 (d + f) - wrap64 (Int.tdiv (wrap64 (wrap64 (d + f) * f)) (wrap64 (wrap64 (h * d) + f))))))).cell? ⟨q, 0, none⟩ = some (.int .i64 (wrap64 (Int.tdiv (wrap64 (wrap64 (d + f) * f)) (wrap64 (wrap64 (h * d) + f))))) := (blk_cell (cs := #[.int .i64 (wrap64 (Int.tdiv (wrap64 (wrap64 (d + f) * f)) (wrap64 (wrap64 (h * d) + f)))), .int .i64 (wrap64 (wrap64 (d + f) - wrap64 (Int.tdiv (wrap64 (wrap64 (d + f) * f)) (wrap64 (wrap64 (h * d) + f)))))]) (t := 23) (by refine blk_put (cs := #[.int .i64 (wrap64 (Int.tdiv (wrap64 (wrap64 (d + f) * f)) (wrap64 (wrap64 (h * d) + f)))), .int .i64 0]) ?_ 1 _ rfl; refine blk_put (cs := #[.int .i64 (wrap64 (Int.tdiv (wrap64 (wrap64 (d + f) * f)) (wrap64 (wrap64 (h * d) + f)))), .int .i64 0]) ?_ 1 _ rfl; refine blk_put (cs := #[.int .i64 0, .int .i64 0]) ?_ 0 _ rfl; exact BKq.out) 0).trans rfl
 generalize (((w2.setCell ⟨q, 0, none⟩ (.int .i64 (wrap64 (Int.tdiv (wrap64 (wrap64 (d + f) * f)) (wrap64 (wrap64 (h * d) + f)))))).setCell ⟨q, 1, none⟩ (.int .i64 0)).setCell ⟨q, 1, none⟩ (.int .i64 (wrap64 (wrap64 (d + f) - wrap64 (Int.tdiv (wrap64 (wrap64 (d + f) * f)) (wrap64 (wrap64 (h * d) + f))))))) = w3 at J GG hz0 hz1 ⊢
 have hg0 : w3.cell? ⟨g, 0, none⟩ = some (.int .i64 d) := (blk_cell GG.out 0).trans rfl
 have hg1 : w3.cell? ⟨g, 1, none⟩ = some (.int .i64 f) := (blk_cell GG.out 1).trans rfl
 have hm0 : w3.cell? ⟨bm, 0, none⟩ = some (.int .i64 m) := (blk_cell J.out.hm 0).trans rfl
 have ho0 : w3.cell? ⟨bo, 0, none⟩ = some (.slice A out.length c) := (blk_cell J.out.ho 0).trans rfl
 have fo0 := blk_frozen J.out.ho 0
 clear BKh BKm BKo BKg BKq HB HO p0 p1
 go_wp2_with (first | (go_at_call 55; ((with_reducible refine (impl_within.calls _ _ _ _ _ (within_w _ _ _)).mono ?_); rintro e w' ⟨rfl, ⟨nd, rfl⟩⟩)))
 go_end0
 exact ⟨rfl, WkJ.toI (q := q) (v := .slice A out.length c) (by (with_reducible repeat (first | apply WkJ.drewN)); exact J.out)⟩

set_option maxHeartbeats 8000000 in
set_option maxRecDepth 100000 in
theorem works_two (W0 : World) (d f h m : Int) (bh bm bo : Nat) (out : List (List S23)) (w : World) (hI : WkI W0 bh bm bo h m out w) (hp : ¬ wkP h d f = 0) (ht : Int.tmod (wrap64 (wkS d f * f)) (wkP h d f) = 0) (h1 : 6 ≤ wkC h d f ∧ wkC h d f ≤ m) (h2 : ¬ (6 ≤ wrap64 (wkS d f - wkC h d f) ∧ wrap64 (wkS d f - wkC h d f) ≤ m)) :
  Calls Try.prog 57 #[.agg #[.int .i64 d, .int .i64 f], .pointer (some ⟨bh, 0, none⟩), .pointer (some ⟨bm, 0, none⟩), .pointer (some ⟨bo, 0, none⟩)] w fun e w' => e = .returned (.tuple #[]) ∧ WkI W0 bh bm bo h m out w' := by
 have hu23 := Try.underlying23
 obtain ⟨hh, hm, ⟨v, ho, hS⟩, hge, hB⟩ := hI
 obtain ⟨A, c, rfl, hc, hC⟩ := Kd.S_reads hS
 have Nh := Aside0.mk (blk_ne ho hh (by decide))
 have Nm := Aside0.mk (blk_ne ho hm (by decide))
 have HB := Aside0.mk hB
 have GE := Aside0.mk hge
 have BKh := Aside0.mk hh
 have BKm := Aside0.mk hm
 have BKo := Aside0.mk ho
 have HO := Aside0.mk hS
 have p0 : (wrap64 (wrap64 (h * d) + f) == 0) = false := beq_eq_false_iff_ne.2 hp
 have p1 : ¬ wrap64 (wrap64 (h * d) + f) = 0 := hp
 clear hh hm ho hS hge hB hC hc hp
 have t0 : (Int.tmod (wrap64 (wrap64 (d + f) * f)) (wrap64 (wrap64 (h * d) + f)) != 0) = false := by
  have : Int.tmod (wrap64 (wrap64 (d + f) * f)) (wrap64 (wrap64 (h * d) + f)) = 0 := ht
  rw [this]
  rfl
 clear ht
 have d1 : decide (6 ≤ wrap64 (Int.tdiv (wrap64 (wrap64 (d + f) * f)) (wrap64 (wrap64 (h * d) + f))) ∧ wrap64 (Int.tdiv (wrap64 (wrap64 (d + f) * f)) (wrap64 (wrap64 (h * d) + f))) ≤ m) = true := decide_eq_true h1
 have d2 : decide (6 ≤ wrap64 (wrap64 (d + f) - wrap64 (Int.tdiv (wrap64 (wrap64 (d + f) * f)) (wrap64 (wrap64 (h * d) + f)))) ∧ wrap64 (wrap64 (d + f) - wrap64 (Int.tdiv (wrap64 (wrap64 (d + f) * f)) (wrap64 (wrap64 (h * d) + f)))) ≤ m) = false := decide_eq_false h2
 clear h1 h2
 go_enter Try.func57, Try.ntmps57
 go_upto_region 6 with (first | ((with_reducible refine gate_dst (N := 4) rfl ?_); (refine box_event ?hg (N := 4) ?hd (cs := #[.int .i64 d, .int .i64 f]) (t := 23) ?hr ?_; (case hd => rfl); (case hg => rfl); (case hr => first | (go_simp; done) | (go_simp; rfl)); intro g hg w1 hbox hb; have BKg := Aside0.mk hbox; have n0_ := Aside0.mk (below_step (by repeat (first | (with_reducible first | exact HB.out | apply below_alloc | apply pw_below_drewN | apply below_drew1) | exact HB.out)) hb); have n1_ := Aside0.mk (blk_below (by (with_reducible repeat (first | refine blk_drewN ?_ _ | refine blk_drew ?_ | refine blk_alloc ?_ _)); exact BKh.out) hb); have n2_ := Aside0.mk (blk_below (by (with_reducible repeat (first | refine blk_drewN ?_ _ | refine blk_drew ?_ | refine blk_alloc ?_ _)); exact BKm.out) hb); have n3_ := Aside0.mk (blk_below (by (with_reducible repeat (first | refine blk_drewN ?_ _ | refine blk_drew ?_ | refine blk_alloc ?_ _)); exact BKo.out) hb); have n4_ := Aside0.mk (Kd.S_below (by (with_reducible repeat (first | apply Kd.S_alloc | apply Kd.S_drewN | apply Kd.S_drew)); exact HO.out) hb); clear HB BKh BKm BKo HO; have HB := n0_; have BKh := n1_; have BKm := n2_; have BKo := n3_; have HO := n4_; clear n0_ n1_ n2_ n3_ n4_; clear hb hbox hg; have haBKh0 : w1.cell? ⟨bh, 0, none⟩ = some (.int .i64 h) := (blk_cell BKh.out 0).trans rfl; have haBKm0 : w1.cell? ⟨bm, 0, none⟩ = some (.int .i64 m) := (blk_cell BKm.out 0).trans rfl; have haBKo0 : w1.cell? ⟨bo, 0, none⟩ = some (.slice A out.length c) := (blk_cell BKo.out 0).trans rfl; have hfaBKo0 := blk_frozen BKo.out 0; have haBKg0 : w1.cell? ⟨g, 0, none⟩ = some (.int .i64 d) := (blk_cell BKg.out 0).trans rfl; have haBKg1 : w1.cell? ⟨g, 1, none⟩ = some (.int .i64 f) := (blk_cell BKg.out 1).trans rfl)) | ((with_reducible refine gate_dst (N := 7) rfl ?_); (refine box_event ?hg (N := 7) ?hd (cs := #[.int .i64 0, .int .i64 0]) (t := 23) ?hr ?_; (case hd => rfl); (case hg => rfl); (case hr => first | (go_simp; done) | (go_simp; rfl)); intro q hg w2 hbox hb; have BKq := Aside0.mk hbox; have n0_ := Aside0.mk (below_step (by repeat (first | (with_reducible first | exact HB.out | apply below_alloc | apply pw_below_drewN | apply below_drew1) | exact HB.out)) hb); have n1_ := Aside0.mk (blk_below (by (with_reducible repeat (first | refine blk_drewN ?_ _ | refine blk_drew ?_ | refine blk_alloc ?_ _)); exact BKh.out) hb); have n2_ := Aside0.mk (blk_below (by (with_reducible repeat (first | refine blk_drewN ?_ _ | refine blk_drew ?_ | refine blk_alloc ?_ _)); exact BKm.out) hb); have n3_ := Aside0.mk (blk_below (by (with_reducible repeat (first | refine blk_drewN ?_ _ | refine blk_drew ?_ | refine blk_alloc ?_ _)); exact BKo.out) hb); have n4_ := Aside0.mk (blk_below (by (with_reducible repeat (first | refine blk_drewN ?_ _ | refine blk_drew ?_ | refine blk_alloc ?_ _)); exact BKg.out) hb); have n5_ := Aside0.mk (Kd.S_below (Kd.S_elderB (by (with_reducible repeat (first | apply Kd.S_alloc | apply Kd.S_drewN | apply Kd.S_drew)); exact HO.out) q (Nat.le_of_eq hg.symm)) hb); have GEq := Aside0.mk (by rw [hg]; exact (below_size (by repeat (first | (with_reducible first | exact HB.out | apply below_alloc | apply pw_below_drewN | apply below_drew1) | exact HB.out))) : W0.heap.size ≤ q); have NBKhq := Aside0.mk ((by rw [hg]; exact Nat.ne_of_lt (blk_lt (by (with_reducible repeat (first | refine blk_drewN ?_ _ | refine blk_drew ?_ | refine blk_alloc ?_ _)); exact BKh.out))) : bh ≠ q); have NBKmq := Aside0.mk ((by rw [hg]; exact Nat.ne_of_lt (blk_lt (by (with_reducible repeat (first | refine blk_drewN ?_ _ | refine blk_drew ?_ | refine blk_alloc ?_ _)); exact BKm.out))) : bm ≠ q); have NBKoq := Aside0.mk ((by rw [hg]; exact Nat.ne_of_lt (blk_lt (by (with_reducible repeat (first | refine blk_drewN ?_ _ | refine blk_drew ?_ | refine blk_alloc ?_ _)); exact BKo.out))) : bo ≠ q); have NBKgq := Aside0.mk ((by rw [hg]; exact Nat.ne_of_lt (blk_lt (by (with_reducible repeat (first | refine blk_drewN ?_ _ | refine blk_drew ?_ | refine blk_alloc ?_ _)); exact BKg.out))) : g ≠ q); clear HB BKh BKm BKo BKg HO; have HB := n0_; have BKh := n1_; have BKm := n2_; have BKo := n3_; have BKg := n4_; have HO := n5_; clear n0_ n1_ n2_ n3_ n4_ n5_; clear hb hbox hg; have hbBKh0 : w2.cell? ⟨bh, 0, none⟩ = some (.int .i64 h) := (blk_cell BKh.out 0).trans rfl; have hbBKm0 : w2.cell? ⟨bm, 0, none⟩ = some (.int .i64 m) := (blk_cell BKm.out 0).trans rfl; have hbBKo0 : w2.cell? ⟨bo, 0, none⟩ = some (.slice A out.length c) := (blk_cell BKo.out 0).trans rfl; have hfbBKo0 := blk_frozen BKo.out 0; have hbBKg0 : w2.cell? ⟨g, 0, none⟩ = some (.int .i64 d) := (blk_cell BKg.out 0).trans rfl; have hbBKg1 : w2.cell? ⟨g, 1, none⟩ = some (.int .i64 f) := (blk_cell BKg.out 1).trans rfl; have hbBKq0 : w2.cell? ⟨q, 0, none⟩ = some (.int .i64 0) := (blk_cell BKq.out 0).trans rfl; have hfbBKq0 := blk_frozen BKq.out 0; have hbBKq1 : w2.cell? ⟨q, 1, none⟩ = some (.int .i64 0) := (blk_cell BKq.out 1).trans rfl; have hfbBKq1 := blk_frozen BKq.out 1; have hnq1 := NBKgq.out; have hnq2 := NBKgq.out.symm; have hnq3 := NBKmq.out; have hnq4 := NBKmq.out.symm; have hnq5 := NBKoq.out; have hnq6 := NBKoq.out.symm)))
 have J := Aside0.mk (show WkJ W0 bh bm bo q h m (.slice A out.length c) out (((w2.setCell ⟨q, 0, none⟩ (.int .i64 (wrap64 (Int.tdiv (wrap64 (wrap64 (d + f) * f)) (wrap64 (wrap64 (h * d) + f)))))).setCell ⟨q, 1, none⟩ (.int .i64 0)).setCell ⟨q, 1, none⟩ (.int .i64 (wrap64 (wrap64 (d + f) - wrap64 (Int.tdiv (wrap64 (wrap64 (d + f) * f)) (wrap64 (wrap64 (h * d) + f))))))) by (with_reducible repeat (first | apply WkJ.drewN | apply WkJ.put)); exact ⟨BKh.out, BKm.out, BKo.out, HO.out, GE.out, GEq.out, HB.out, NBKhq.out, NBKmq.out, NBKoq.out⟩)
 have GG : Aside0 ((((w2.setCell ⟨q, 0, none⟩ (.int .i64 (wrap64 (Int.tdiv (wrap64 (wrap64 (d + f) * f)) (wrap64 (wrap64 (h * d) + f)))))).setCell ⟨q, 1, none⟩ (.int .i64 0)).setCell ⟨q, 1, none⟩ (.int .i64 (wrap64 (wrap64 (d + f) - wrap64 (Int.tdiv (wrap64 (wrap64 (d + f) * f)) (wrap64 (wrap64 (h * d) + f))))))).heap[g]? = some (.cells #[.int .i64 d, .int .i64 f] 23 (0, 0))) := ⟨blk_far (blk_far (blk_far BKg.out NBKgq.out _) NBKgq.out _) NBKgq.out _⟩
 have hz1 : (((w2.setCell ⟨q, 0, none⟩ (.int .i64 (wrap64 (Int.tdiv (wrap64 (wrap64 (d + f) * f)) (wrap64 (wrap64 (h * d) + f)))))).setCell ⟨q, 1, none⟩ (.int .i64 0)).setCell ⟨q, 1, none⟩ (.int .i64 (wrap64 (wrap64 (d + f) - wrap64 (Int.tdiv (wrap64 (wrap64 (d + f) * f)) (wrap64 (wrap64 (h * d) + f))))))).cell? ⟨q, 1, none⟩ = some (.int .i64 (wrap64 (wrap64 (d + f) - wrap64 (Int.tdiv (wrap64 (wrap64 (d + f) * f)) (wrap64 (wrap64 (h * d) + f)))))) := (blk_cell (cs := #[.int .i64 (wrap64 (Int.tdiv (wrap64 (wrap64 (d + f) * f)) (wrap64 (wrap64 (h * d) + f)))), .int .i64 (wrap64 (wrap64 (d + f) - wrap64 (Int.tdiv (wrap64 (wrap64 (d + f) * f)) (wrap64 (wrap64 (h * d) + f)))))]) (t := 23) (by refine blk_put (cs := #[.int .i64 (wrap64 (Int.tdiv (wrap64 (wrap64 (d + f) * f)) (wrap64 (wrap64 (h * d) + f)))), .int .i64 0]) ?_ 1 _ rfl; refine blk_put (cs := #[.int .i64 (wrap64 (Int.tdiv (wrap64 (wrap64 (d + f) * f)) (wrap64 (wrap64 (h * d) + f)))), .int .i64 0]) ?_ 1 _ rfl; refine blk_put (cs := #[.int .i64 0, .int .i64 0]) ?_ 0 _ rfl; exact BKq.out) 1).trans rfl
 have hz0 : (((w2.setCell ⟨q, 0, none⟩ (.int .i64 (wrap64 (Int.tdiv (wrap64 (wrap64 (d + f) * f)) (wrap64 (wrap64 (h * d) + f)))))).setCell ⟨q, 1, none⟩ (.int .i64 0)).setCell ⟨q, 1, none⟩ (.int .i64 (wrap64 (wrap64 (d + f) - wrap64 (Int.tdiv (wrap64 (wrap64 (d + f) * f)) (wrap64 (wrap64 (h * d) + f))))))).cell? ⟨q, 0, none⟩ = some (.int .i64 (wrap64 (Int.tdiv (wrap64 (wrap64 (d + f) * f)) (wrap64 (wrap64 (h * d) + f))))) := (blk_cell (cs := #[.int .i64 (wrap64 (Int.tdiv (wrap64 (wrap64 (d + f) * f)) (wrap64 (wrap64 (h * d) + f)))), .int .i64 (wrap64 (wrap64 (d + f) - wrap64 (Int.tdiv (wrap64 (wrap64 (d + f) * f)) (wrap64 (wrap64 (h * d) + f)))))]) (t := 23) (by refine blk_put (cs := #[.int .i64 (wrap64 (Int.tdiv (wrap64 (wrap64 (d + f) * f)) (wrap64 (wrap64 (h * d) + f)))), .int .i64 0]) ?_ 1 _ rfl; refine blk_put (cs := #[.int .i64 (wrap64 (Int.tdiv (wrap64 (wrap64 (d + f) * f)) (wrap64 (wrap64 (h * d) + f)))), .int .i64 0]) ?_ 1 _ rfl; refine blk_put (cs := #[.int .i64 0, .int .i64 0]) ?_ 0 _ rfl; exact BKq.out) 0).trans rfl
 generalize (((w2.setCell ⟨q, 0, none⟩ (.int .i64 (wrap64 (Int.tdiv (wrap64 (wrap64 (d + f) * f)) (wrap64 (wrap64 (h * d) + f)))))).setCell ⟨q, 1, none⟩ (.int .i64 0)).setCell ⟨q, 1, none⟩ (.int .i64 (wrap64 (wrap64 (d + f) - wrap64 (Int.tdiv (wrap64 (wrap64 (d + f) * f)) (wrap64 (wrap64 (h * d) + f))))))) = w3 at J GG hz0 hz1 ⊢
 have hg0 : w3.cell? ⟨g, 0, none⟩ = some (.int .i64 d) := (blk_cell GG.out 0).trans rfl
 have hg1 : w3.cell? ⟨g, 1, none⟩ = some (.int .i64 f) := (blk_cell GG.out 1).trans rfl
 have hm0 : w3.cell? ⟨bm, 0, none⟩ = some (.int .i64 m) := (blk_cell J.out.hm 0).trans rfl
 have ho0 : w3.cell? ⟨bo, 0, none⟩ = some (.slice A out.length c) := (blk_cell J.out.ho 0).trans rfl
 have fo0 := blk_frozen J.out.ho 0
 clear BKh BKm BKo BKg BKq HB HO p0 p1
 go_wp2_with (first | (go_at_call 55; ((with_reducible refine (impl_within.calls _ _ _ _ _ (within_w _ _ _)).mono ?_); rintro e w' ⟨rfl, ⟨nd, rfl⟩⟩)))
 go_end0
 exact ⟨rfl, WkJ.toI (q := q) (v := .slice A out.length c) (by (with_reducible repeat (first | apply WkJ.drewN)); exact J.out)⟩

set_option maxHeartbeats 8000000 in
set_option maxRecDepth 100000 in
theorem works_put (W0 : World) (d f h m : Int) (bh bm bo : Nat) (out : List (List S23)) (w : World) (hI : WkI W0 bh bm bo h m out w) (hp : ¬ wkP h d f = 0) (ht : Int.tmod (wrap64 (wkS d f * f)) (wkP h d f) = 0) (h1 : 6 ≤ wkC h d f ∧ wkC h d f ≤ m) (h2 : 6 ≤ wrap64 (wkS d f - wkC h d f) ∧ wrap64 (wkS d f - wkC h d f) ≤ m) (hl : out.length < 5864062014805) :
  Calls Try.prog 57 #[.agg #[.int .i64 d, .int .i64 f], .pointer (some ⟨bh, 0, none⟩), .pointer (some ⟨bm, 0, none⟩), .pointer (some ⟨bo, 0, none⟩)] w fun e w' => e = .returned (.tuple #[]) ∧ WkI W0 bh bm bo h m (out ++ [[⟨d, f⟩, ⟨wkC h d f, wrap64 (wkS d f - wkC h d f)⟩]]) w' := by
 have hu23 := Try.underlying23
 obtain ⟨hh, hm, ⟨v, ho, hS⟩, hge, hB⟩ := hI
 obtain ⟨A, c, rfl, hc, hC⟩ := Kd.S_reads hS
 have Nh := Aside0.mk (blk_ne ho hh (by decide))
 have Nm := Aside0.mk (blk_ne ho hm (by decide))
 have HB := Aside0.mk hB
 have GE := Aside0.mk hge
 have BKh := Aside0.mk hh
 have BKm := Aside0.mk hm
 have BKo := Aside0.mk ho
 have HO := Aside0.mk hS
 have p0 : (wrap64 (wrap64 (h * d) + f) == 0) = false := beq_eq_false_iff_ne.2 hp
 have p1 : ¬ wrap64 (wrap64 (h * d) + f) = 0 := hp
 clear hh hm ho hS hge hB hC hc hp
 have t0 : (Int.tmod (wrap64 (wrap64 (d + f) * f)) (wrap64 (wrap64 (h * d) + f)) != 0) = false := by
  have : Int.tmod (wrap64 (wrap64 (d + f) * f)) (wrap64 (wrap64 (h * d) + f)) = 0 := ht
  rw [this]
  rfl
 clear ht
 have d1 : decide (6 ≤ wrap64 (Int.tdiv (wrap64 (wrap64 (d + f) * f)) (wrap64 (wrap64 (h * d) + f))) ∧ wrap64 (Int.tdiv (wrap64 (wrap64 (d + f) * f)) (wrap64 (wrap64 (h * d) + f))) ≤ m) = true := decide_eq_true h1
 have d2 : decide (6 ≤ wrap64 (wrap64 (d + f) - wrap64 (Int.tdiv (wrap64 (wrap64 (d + f) * f)) (wrap64 (wrap64 (h * d) + f)))) ∧ wrap64 (wrap64 (d + f) - wrap64 (Int.tdiv (wrap64 (wrap64 (d + f) * f)) (wrap64 (wrap64 (h * d) + f)))) ≤ m) = true := decide_eq_true h2
 have HL := Aside0.mk hl
 clear h1 h2 hl
 go_enter Try.func57, Try.ntmps57
 go_upto_region 6 with (first | ((with_reducible refine gate_dst (N := 4) rfl ?_); (refine box_event ?hg (N := 4) ?hd (cs := #[.int .i64 d, .int .i64 f]) (t := 23) ?hr ?_; (case hd => rfl); (case hg => rfl); (case hr => first | (go_simp; done) | (go_simp; rfl)); intro g hg w1 hbox hb; have BKg := Aside0.mk hbox; have n0_ := Aside0.mk (below_step (by repeat (first | (with_reducible first | exact HB.out | apply below_alloc | apply pw_below_drewN | apply below_drew1) | exact HB.out)) hb); have n1_ := Aside0.mk (blk_below (by (with_reducible repeat (first | refine blk_drewN ?_ _ | refine blk_drew ?_ | refine blk_alloc ?_ _)); exact BKh.out) hb); have n2_ := Aside0.mk (blk_below (by (with_reducible repeat (first | refine blk_drewN ?_ _ | refine blk_drew ?_ | refine blk_alloc ?_ _)); exact BKm.out) hb); have n3_ := Aside0.mk (blk_below (by (with_reducible repeat (first | refine blk_drewN ?_ _ | refine blk_drew ?_ | refine blk_alloc ?_ _)); exact BKo.out) hb); have n4_ := Aside0.mk (Kd.S_below (by (with_reducible repeat (first | apply Kd.S_alloc | apply Kd.S_drewN | apply Kd.S_drew)); exact HO.out) hb); clear HB BKh BKm BKo HO; have HB := n0_; have BKh := n1_; have BKm := n2_; have BKo := n3_; have HO := n4_; clear n0_ n1_ n2_ n3_ n4_; clear hb hbox hg; have haBKh0 : w1.cell? ⟨bh, 0, none⟩ = some (.int .i64 h) := (blk_cell BKh.out 0).trans rfl; have haBKm0 : w1.cell? ⟨bm, 0, none⟩ = some (.int .i64 m) := (blk_cell BKm.out 0).trans rfl; have haBKo0 : w1.cell? ⟨bo, 0, none⟩ = some (.slice A out.length c) := (blk_cell BKo.out 0).trans rfl; have hfaBKo0 := blk_frozen BKo.out 0; have haBKg0 : w1.cell? ⟨g, 0, none⟩ = some (.int .i64 d) := (blk_cell BKg.out 0).trans rfl; have haBKg1 : w1.cell? ⟨g, 1, none⟩ = some (.int .i64 f) := (blk_cell BKg.out 1).trans rfl)) | ((with_reducible refine gate_dst (N := 7) rfl ?_); (refine box_event ?hg (N := 7) ?hd (cs := #[.int .i64 0, .int .i64 0]) (t := 23) ?hr ?_; (case hd => rfl); (case hg => rfl); (case hr => first | (go_simp; done) | (go_simp; rfl)); intro q hg w2 hbox hb; have BKq := Aside0.mk hbox; have n0_ := Aside0.mk (below_step (by repeat (first | (with_reducible first | exact HB.out | apply below_alloc | apply pw_below_drewN | apply below_drew1) | exact HB.out)) hb); have n1_ := Aside0.mk (blk_below (by (with_reducible repeat (first | refine blk_drewN ?_ _ | refine blk_drew ?_ | refine blk_alloc ?_ _)); exact BKh.out) hb); have n2_ := Aside0.mk (blk_below (by (with_reducible repeat (first | refine blk_drewN ?_ _ | refine blk_drew ?_ | refine blk_alloc ?_ _)); exact BKm.out) hb); have n3_ := Aside0.mk (blk_below (by (with_reducible repeat (first | refine blk_drewN ?_ _ | refine blk_drew ?_ | refine blk_alloc ?_ _)); exact BKo.out) hb); have n4_ := Aside0.mk (blk_below (by (with_reducible repeat (first | refine blk_drewN ?_ _ | refine blk_drew ?_ | refine blk_alloc ?_ _)); exact BKg.out) hb); have n5_ := Aside0.mk (Kd.S_below (Kd.S_elderB (by (with_reducible repeat (first | apply Kd.S_alloc | apply Kd.S_drewN | apply Kd.S_drew)); exact HO.out) q (Nat.le_of_eq hg.symm)) hb); have GEq := Aside0.mk (by rw [hg]; exact (below_size (by repeat (first | (with_reducible first | exact HB.out | apply below_alloc | apply pw_below_drewN | apply below_drew1) | exact HB.out))) : W0.heap.size ≤ q); have NBKhq := Aside0.mk ((by rw [hg]; exact Nat.ne_of_lt (blk_lt (by (with_reducible repeat (first | refine blk_drewN ?_ _ | refine blk_drew ?_ | refine blk_alloc ?_ _)); exact BKh.out))) : bh ≠ q); have NBKmq := Aside0.mk ((by rw [hg]; exact Nat.ne_of_lt (blk_lt (by (with_reducible repeat (first | refine blk_drewN ?_ _ | refine blk_drew ?_ | refine blk_alloc ?_ _)); exact BKm.out))) : bm ≠ q); have NBKoq := Aside0.mk ((by rw [hg]; exact Nat.ne_of_lt (blk_lt (by (with_reducible repeat (first | refine blk_drewN ?_ _ | refine blk_drew ?_ | refine blk_alloc ?_ _)); exact BKo.out))) : bo ≠ q); have NBKgq := Aside0.mk ((by rw [hg]; exact Nat.ne_of_lt (blk_lt (by (with_reducible repeat (first | refine blk_drewN ?_ _ | refine blk_drew ?_ | refine blk_alloc ?_ _)); exact BKg.out))) : g ≠ q); clear HB BKh BKm BKo BKg HO; have HB := n0_; have BKh := n1_; have BKm := n2_; have BKo := n3_; have BKg := n4_; have HO := n5_; clear n0_ n1_ n2_ n3_ n4_ n5_; clear hb hbox hg; have hbBKh0 : w2.cell? ⟨bh, 0, none⟩ = some (.int .i64 h) := (blk_cell BKh.out 0).trans rfl; have hbBKm0 : w2.cell? ⟨bm, 0, none⟩ = some (.int .i64 m) := (blk_cell BKm.out 0).trans rfl; have hbBKo0 : w2.cell? ⟨bo, 0, none⟩ = some (.slice A out.length c) := (blk_cell BKo.out 0).trans rfl; have hfbBKo0 := blk_frozen BKo.out 0; have hbBKg0 : w2.cell? ⟨g, 0, none⟩ = some (.int .i64 d) := (blk_cell BKg.out 0).trans rfl; have hbBKg1 : w2.cell? ⟨g, 1, none⟩ = some (.int .i64 f) := (blk_cell BKg.out 1).trans rfl; have hbBKq0 : w2.cell? ⟨q, 0, none⟩ = some (.int .i64 0) := (blk_cell BKq.out 0).trans rfl; have hfbBKq0 := blk_frozen BKq.out 0; have hbBKq1 : w2.cell? ⟨q, 1, none⟩ = some (.int .i64 0) := (blk_cell BKq.out 1).trans rfl; have hfbBKq1 := blk_frozen BKq.out 1; have hnq1 := NBKgq.out; have hnq2 := NBKgq.out.symm; have hnq3 := NBKmq.out; have hnq4 := NBKmq.out.symm; have hnq5 := NBKoq.out; have hnq6 := NBKoq.out.symm)))
 have J := Aside0.mk (show WkJ W0 bh bm bo q h m (.slice A out.length c) out (((w2.setCell ⟨q, 0, none⟩ (.int .i64 (wrap64 (Int.tdiv (wrap64 (wrap64 (d + f) * f)) (wrap64 (wrap64 (h * d) + f)))))).setCell ⟨q, 1, none⟩ (.int .i64 0)).setCell ⟨q, 1, none⟩ (.int .i64 (wrap64 (wrap64 (d + f) - wrap64 (Int.tdiv (wrap64 (wrap64 (d + f) * f)) (wrap64 (wrap64 (h * d) + f))))))) by (with_reducible repeat (first | apply WkJ.drewN | apply WkJ.put)); exact ⟨BKh.out, BKm.out, BKo.out, HO.out, GE.out, GEq.out, HB.out, NBKhq.out, NBKmq.out, NBKoq.out⟩)
 have GG : Aside0 ((((w2.setCell ⟨q, 0, none⟩ (.int .i64 (wrap64 (Int.tdiv (wrap64 (wrap64 (d + f) * f)) (wrap64 (wrap64 (h * d) + f)))))).setCell ⟨q, 1, none⟩ (.int .i64 0)).setCell ⟨q, 1, none⟩ (.int .i64 (wrap64 (wrap64 (d + f) - wrap64 (Int.tdiv (wrap64 (wrap64 (d + f) * f)) (wrap64 (wrap64 (h * d) + f))))))).heap[g]? = some (.cells #[.int .i64 d, .int .i64 f] 23 (0, 0))) := ⟨blk_far (blk_far (blk_far BKg.out NBKgq.out _) NBKgq.out _) NBKgq.out _⟩
 have hz1 : (((w2.setCell ⟨q, 0, none⟩ (.int .i64 (wrap64 (Int.tdiv (wrap64 (wrap64 (d + f) * f)) (wrap64 (wrap64 (h * d) + f)))))).setCell ⟨q, 1, none⟩ (.int .i64 0)).setCell ⟨q, 1, none⟩ (.int .i64 (wrap64 (wrap64 (d + f) - wrap64 (Int.tdiv (wrap64 (wrap64 (d + f) * f)) (wrap64 (wrap64 (h * d) + f))))))).cell? ⟨q, 1, none⟩ = some (.int .i64 (wrap64 (wrap64 (d + f) - wrap64 (Int.tdiv (wrap64 (wrap64 (d + f) * f)) (wrap64 (wrap64 (h * d) + f)))))) := (blk_cell (cs := #[.int .i64 (wrap64 (Int.tdiv (wrap64 (wrap64 (d + f) * f)) (wrap64 (wrap64 (h * d) + f)))), .int .i64 (wrap64 (wrap64 (d + f) - wrap64 (Int.tdiv (wrap64 (wrap64 (d + f) * f)) (wrap64 (wrap64 (h * d) + f)))))]) (t := 23) (by refine blk_put (cs := #[.int .i64 (wrap64 (Int.tdiv (wrap64 (wrap64 (d + f) * f)) (wrap64 (wrap64 (h * d) + f)))), .int .i64 0]) ?_ 1 _ rfl; refine blk_put (cs := #[.int .i64 (wrap64 (Int.tdiv (wrap64 (wrap64 (d + f) * f)) (wrap64 (wrap64 (h * d) + f)))), .int .i64 0]) ?_ 1 _ rfl; refine blk_put (cs := #[.int .i64 0, .int .i64 0]) ?_ 0 _ rfl; exact BKq.out) 1).trans rfl
 have hz0 : (((w2.setCell ⟨q, 0, none⟩ (.int .i64 (wrap64 (Int.tdiv (wrap64 (wrap64 (d + f) * f)) (wrap64 (wrap64 (h * d) + f)))))).setCell ⟨q, 1, none⟩ (.int .i64 0)).setCell ⟨q, 1, none⟩ (.int .i64 (wrap64 (wrap64 (d + f) - wrap64 (Int.tdiv (wrap64 (wrap64 (d + f) * f)) (wrap64 (wrap64 (h * d) + f))))))).cell? ⟨q, 0, none⟩ = some (.int .i64 (wrap64 (Int.tdiv (wrap64 (wrap64 (d + f) * f)) (wrap64 (wrap64 (h * d) + f))))) := (blk_cell (cs := #[.int .i64 (wrap64 (Int.tdiv (wrap64 (wrap64 (d + f) * f)) (wrap64 (wrap64 (h * d) + f)))), .int .i64 (wrap64 (wrap64 (d + f) - wrap64 (Int.tdiv (wrap64 (wrap64 (d + f) * f)) (wrap64 (wrap64 (h * d) + f)))))]) (t := 23) (by refine blk_put (cs := #[.int .i64 (wrap64 (Int.tdiv (wrap64 (wrap64 (d + f) * f)) (wrap64 (wrap64 (h * d) + f)))), .int .i64 0]) ?_ 1 _ rfl; refine blk_put (cs := #[.int .i64 (wrap64 (Int.tdiv (wrap64 (wrap64 (d + f) * f)) (wrap64 (wrap64 (h * d) + f)))), .int .i64 0]) ?_ 1 _ rfl; refine blk_put (cs := #[.int .i64 0, .int .i64 0]) ?_ 0 _ rfl; exact BKq.out) 0).trans rfl
 generalize (((w2.setCell ⟨q, 0, none⟩ (.int .i64 (wrap64 (Int.tdiv (wrap64 (wrap64 (d + f) * f)) (wrap64 (wrap64 (h * d) + f)))))).setCell ⟨q, 1, none⟩ (.int .i64 0)).setCell ⟨q, 1, none⟩ (.int .i64 (wrap64 (wrap64 (d + f) - wrap64 (Int.tdiv (wrap64 (wrap64 (d + f) * f)) (wrap64 (wrap64 (h * d) + f))))))) = w3 at J GG hz0 hz1 ⊢
 have hg0 : w3.cell? ⟨g, 0, none⟩ = some (.int .i64 d) := (blk_cell GG.out 0).trans rfl
 have hg1 : w3.cell? ⟨g, 1, none⟩ = some (.int .i64 f) := (blk_cell GG.out 1).trans rfl
 have hm0 : w3.cell? ⟨bm, 0, none⟩ = some (.int .i64 m) := (blk_cell J.out.hm 0).trans rfl
 have ho0 : w3.cell? ⟨bo, 0, none⟩ = some (.slice A out.length c) := (blk_cell J.out.ho 0).trans rfl
 have fo0 := blk_frozen J.out.ho 0
 clear BKh BKm BKo BKg BKq HB HO p0 p1
 go_wp2_with (first | (go_at_call 55; ((with_reducible refine (impl_within.calls _ _ _ _ _ (within_w _ _ _)).mono ?_); rintro e w' ⟨rfl, ⟨nd, rfl⟩⟩)) | ((with_reducible refine gate_dst (N := 52) rfl ?_); (refine Kd.R_lit k23 _ 23 ?hg (N := 52) ?hd (xs := ([(⟨d, f⟩ : S23), ⟨wrap64 (Int.tdiv (wrap64 (wrap64 (d + f) * f)) (wrap64 (wrap64 (h * d) + f))), wrap64 (wrap64 (d + f) - wrap64 (Int.tdiv (wrap64 (wrap64 (d + f) * f)) (wrap64 (wrap64 (h * d) + f))))⟩] : List S23)) (inner := [.int .i64 d, .int .i64 f, .int .i64 (wrap64 (Int.tdiv (wrap64 (wrap64 (d + f) * f)) (wrap64 (wrap64 (h * d) + f)))), .int .i64 (wrap64 (wrap64 (d + f) - wrap64 (Int.tdiv (wrap64 (wrap64 (d + f) * f)) (wrap64 (wrap64 (h * d) + f)))))]) (ok := fun _ => True) (okp := fun _ => True) ?hr ?hp (fun _ hk => hk) trivial (Below.refl _ _) (Nat.le_refl _) (by simp) ?_; (case hd => rfl); (case hg => rfl); (case hr => first | (go_simp; done) | (go_simp; rfl)); (case hp => exact (Reps.c2 (show Kd.M k23 _ _ _ (⟨d, f⟩ : S23) [.int .i64 d, .int .i64 f] from (k23_mkM _ _ _ (⟨d, f⟩ : S23))) (Reps.c2 (show Kd.M k23 _ _ _ (⟨wrap64 (Int.tdiv (wrap64 (wrap64 (d + f) * f)) (wrap64 (wrap64 (h * d) + f))), wrap64 (wrap64 (d + f) - wrap64 (Int.tdiv (wrap64 (wrap64 (d + f) * f)) (wrap64 (wrap64 (h * d) + f))))⟩ : S23) [.int .i64 (wrap64 (Int.tdiv (wrap64 (wrap64 (d + f) * f)) (wrap64 (wrap64 (h * d) + f)))), .int .i64 (wrap64 (wrap64 (d + f) - wrap64 (Int.tdiv (wrap64 (wrap64 (d + f) * f)) (wrap64 (wrap64 (h * d) + f)))))] from (k23_mkM _ _ _ (⟨wrap64 (Int.tdiv (wrap64 (wrap64 (d + f) * f)) (wrap64 (wrap64 (h * d) + f))), wrap64 (wrap64 (d + f) - wrap64 (Int.tdiv (wrap64 (wrap64 (d + f) * f)) (wrap64 (wrap64 (h * d) + f))))⟩ : S23))) (Reps.none _ _)))); intro v8 w8 ho11 hb hg_ hnew_; clear hg_ hnew_; obtain ⟨A8, c8, rfl, hc8, hC8⟩ := Kd.R_reads ho11; have L := Aside0.mk (WkJ.lit (by (with_reducible repeat (first | apply WkJ.drewN)); exact J.out) hb ho11); have LM := Aside0.mk (below_size L.out.hB); clear hc8 hC8 hb ho11)) | ((with_reducible refine gate_builtin (b := .append) (xs := #[.tmp 49, .tmp 53]) rfl ?_); at_builtin; (refine Kd.S_append (Kd.slice 23 k23) (w0 := W0) W0.heap.size rfl (.tmp 49) (.tmp 53) 34 28 (.slice none 0 0) 24 rfl Try.underlying34 info28 rfl (by decide) (by omega) (.slice A out.length c) out [⟨d, f⟩, ⟨wrap64 (Int.tdiv (wrap64 (wrap64 (d + f) * f)) (wrap64 (wrap64 (h * d) + f))), wrap64 (wrap64 (d + f) - wrap64 (Int.tdiv (wrap64 (wrap64 (d + f) * f)) (wrap64 (wrap64 (h * d) + f))))⟩] [.slice A8 2 c8] (fun _ => True) (fun k_ => some k_ = (.slice A8 2 c8 : Value).ownBlock) rfl rfl ?aP L.out.apart ?aF ?aO ?aB ?aS ?aL ?_; (case aP => exact Kd.M_row (Kd.R_tight rfl L.out.hR)); (case aB => exact L.out.hB); (case aF => exact (fun _ _ => trivial)); (case aO => exact Kd.S_mono L.out.hS (fun k_ hk => ⟨trivial, fun e_ => hk.2 e_⟩)); (case aS => exact LM.out); (case aL => have := HL.out; omega); intro v12 w12 ho12 hb12 hg12 hat12; clear hat12; have GR := Aside0.mk hg12; have HS12 := Aside0.mk ho12; have HB12 := Aside0.mk hb12; clear ho12 hb12 hg12; have O12 := Aside0.mk (L.out.grown GR.out L.out.ho (by decide)); have co0 : w12.cell? ⟨bo, 0, none⟩ = some (.slice A out.length c) := (blk_cell O12.out 0).trans rfl; have fo12 := blk_frozen O12.out 0; obtain ⟨A12, n12, c12, e12⟩ : ∃ A n c, v12 = .slice A n c := (by obtain ⟨A, c, e⟩ := Kd.S_slice HS12.out; exact ⟨A, _, c, e⟩); subst e12)))
 go_end0
 exact ⟨rfl, WkL.done L.out GR.out HS12.out HB12.out⟩

theorem works_visit (W0 : World) (d f h m : Int) (bh bm bo : Nat) (out : List (List S23)) (w : World) (hI : WkI W0 bh bm bo h m out w) (hp : ¬ wkP h d f = 0) (hl : out.length < 5864062014805) :
  Calls Try.prog 57 #[.agg #[.int .i64 d, .int .i64 f], .pointer (some ⟨bh, 0, none⟩), .pointer (some ⟨bm, 0, none⟩), .pointer (some ⟨bo, 0, none⟩)] w fun e w' => e = .returned (.tuple #[]) ∧ WkI W0 bh bm bo h m (wkN h m d f out) w' := by
 unfold wkN
 by_cases ht : Int.tmod (wrap64 (wkS d f * f)) (wkP h d f) = 0
 ·
  rw [if_pos ht]
  by_cases h1 : 6 ≤ wkC h d f ∧ wkC h d f ≤ m
  ·
   by_cases h2 : 6 ≤ wrap64 (wkS d f - wkC h d f) ∧ wrap64 (wkS d f - wkC h d f) ≤ m
   ·
    rw [if_pos ⟨h1, h2⟩]
    exact works_put W0 d f h m bh bm bo out w hI hp ht h1 h2 hl
   ·
    rw [if_neg (fun z => h2 z.2)]
    exact works_two W0 d f h m bh bm bo out w hI hp ht h1 h2
  ·
   rw [if_neg (fun z => h1 z.1)]
   exact works_one W0 d f h m bh bm bo out w hI hp ht h1
 ·
  rw [if_neg ht]
  exact works_rem W0 d f h m bh bm bo out w hI hp ht
def wkF (h m : Int) : Nat → Int → Int → List (List S23) → Option (List (List S23))
 | 0, _, _, _ => none
 | g + 1, d, f, out => if d ≤ m then (if f ≤ m then (if wkP h d f = 0 then none else if out.length < 5864062014805 then wkF h m g d (f + 1) (wkN h m d f out) else none) else wkF h m g (d + 1) 6 out) else some out
def wksF (k : Nat) (a0 a1 : Int) : Option (List (List S23)) := if 6 ≤ a1 ∧ a1 ≤ 120 then wkF a0 a1 k 6 6 [] else none
set_option maxHeartbeats 8000000 in
set_option maxRecDepth 100000 in
theorem each_works (q0 q1 q2 : Option Addr) (m : Int) (hm : 5 ≤ m) (hm' : m ≤ 1000) (I : Int → Int → World → Prop)
  (hstep : ∀ d f w, 6 ≤ d → d ≤ m → 6 ≤ f → f ≤ m → I d f w → Calls Try.prog 57 #[.agg #[.int .i64 d, .int .i64 f], .pointer q0, .pointer q1, .pointer q2] w fun e w' => e = .returned (.tuple #[]) ∧ I d (f + 1) w')
  (hnext : ∀ d w, I d (m + 1) w → I (d + 1) 6 w) (w : World) (h0 : I 6 6 w) :
  Calls Try.prog 37 #[.int .i64 m, .func (.func 57) #[] #[.pointer q0, .pointer q1, .pointer q2]] w fun e w' => e = .returned (.tuple #[]) ∧ I (m + 1) 6 w' := by
 have HM := Aside0.mk (And.intro hm hm')
 clear hm hm'
 have HS := Aside0.mk hstep
 have HN := Aside0.mk hnext
 have H0 := Aside0.mk h0
 clear hstep hnext h0
 go_enter Try.func37, Try.ntmps37
 go_wp2
 go_loopg [4] m.toNat (fun gk v4 w' => ∃ (d : Int), v4 = .int .i64 d ∧ Aside0 (6 ≤ d ∧ d ≤ m + 1 ∧ d + gk = m + 6) ∧ Aside0 (I d 6 w'))
 case atStart => exact ⟨6, rfl, ⟨by have := HM.out; omega⟩, H0⟩
 case round =>
  obtain ⟨d, rfl, HD, HI⟩ := hrel
  by_cases hlt : d ≤ m
  ·
   obtain ⟨k1, rfl⟩ : ∃ k1, gk = k1 + 1 := ⟨gk - 1, by have := HD.out; omega⟩
   have c1 : decide (d ≤ m) = true := decide_eq_true hlt
   have HL := Aside0.mk hlt
   clear hlt
   go_wp2
   go_loopg [5] m.toNat (fun gk v5 w' => ∃ (f : Int), v5 = .int .i64 f ∧ Aside0 (6 ≤ f ∧ f ≤ m + 1 ∧ f + gk = m + 6) ∧ Aside0 (I d f w'))
   case atStart => exact ⟨6, rfl, ⟨by have := HM.out; have := HL.out; have := HD.out; omega⟩, HI⟩
   case round =>
    try clear c1
    obtain ⟨f, rfl, HF, HI⟩ := hrel
    by_cases hlf : f ≤ m
    ·
     obtain ⟨k2, rfl⟩ : ∃ k2, gk = k2 + 1 := ⟨gk - 1, by have := HF.out; omega⟩
     have c2 : decide (f ≤ m) = true := decide_eq_true hlf
     have HLF := Aside0.mk hlf
     clear hlf
     go_wp2_with (first | (go_at_call 57; (refine (HS.out d f _ ?ha ?hb ?hc ?hd HI.out).mono ?_); (case ha => have := HD.out; omega); (case hb => exact HL.out); (case hc => have := HF.out; omega); (case hd => exact HLF.out); rintro e w1 ⟨rfl, hi⟩; have HI1 := Aside0.mk hi; clear hi))
     go_roundg k2
     case measure => omega
     case rel =>
      refine ⟨f + 1, ?_, ⟨by have := HF.out; have := HLF.out; omega⟩, HI1⟩
      have := HF.out
      have := HLF.out
      have := HM.out
      rw [IntWalk.wrap64_in (f + 1) ⟨by omega, by omega⟩]
    ·
     have c2 : decide (f ≤ m) = false := decide_eq_false hlf
     have HLF := Aside0.mk hlf
     clear hlf
     go_wp2
     go_roundg k1
     case measure => omega
     case rel =>
      refine ⟨d + 1, ?_, ⟨by have := HD.out; have := HL.out; have := HM.out; omega⟩, ⟨HN.out d _ ?_⟩⟩
      ·
       have := HD.out
       have := HL.out
       have := HM.out
       rw [IntWalk.wrap64_in (d + 1) ⟨by omega, by omega⟩]
      ·
       have e : f = m + 1 := by
        have := HF.out
        have := HLF.out
        omega
       rw [← e]
       exact HI.out
  ·
   have c1 : decide (d ≤ m) = false := decide_eq_false hlt
   have HL := Aside0.mk hlt
   clear hlt
   go_wp2
   go_end0
   refine ⟨rfl, ?_⟩
   have e : d = m + 1 := by
    have := HD.out
    have := HL.out
    omega
   rw [← e]
   exact HI.out

theorem works_each (k : Nat) (W0 : World) (h m : Int) (bh bm bo : Nat) (r : List (List S23)) (hm : 5 ≤ m) (hm' : m ≤ 1000) (w : World) (hI : WkI W0 bh bm bo h m [] w) (hr : wkF h m k 6 6 [] = some r) :
  Calls Try.prog 37 #[.int .i64 m, .func (.func 57) #[] #[.pointer (some ⟨bh, 0, none⟩), .pointer (some ⟨bm, 0, none⟩), .pointer (some ⟨bo, 0, none⟩)]] w fun e w' => e = .returned (.tuple #[]) ∧ WkI W0 bh bm bo h m r w' := by
 refine (each_works _ _ _ m hm hm' (fun d f w => ∃ g out, wkF h m g d f out = some r ∧ WkI W0 bh bm bo h m out w) ?_ ?_ w ⟨k, [], hr, hI⟩).mono ?_
 ·
  rintro d f w h1 h2 h3 h4 ⟨g, out, hg, hI⟩
  cases g with
  | zero => simp [wkF] at hg
  | succ g =>
   simp only [wkF, if_pos h2, if_pos h4] at hg
   split at hg
   ·
    cases hg
   ·
    rename_i hp
    split at hg
    ·
     rename_i hl
     exact (works_visit W0 d f h m bh bm bo out w hI hp hl).mono fun e w' ⟨he, hi⟩ => ⟨he, g, _, hg, hi⟩
    ·
     cases hg
 ·
  rintro d w ⟨g, out, hg, hI⟩
  cases g with
  | zero => simp [wkF] at hg
  | succ g =>
   simp only [wkF] at hg
   by_cases h2 : d ≤ m
   ·
    rw [if_pos h2, if_neg (by omega)] at hg
    exact ⟨g, out, hg, hI⟩
   ·
    rw [if_neg h2] at hg
    refine ⟨g + 1, out, ?_, hI⟩
    simp only [wkF]
    rw [if_neg (by omega)]
    exact hg
 ·
  rintro e w' ⟨he, g, out, hg, hI⟩
  cases g with
  | zero => simp [wkF] at hg
  | succ g =>
   simp only [wkF] at hg
   rw [if_neg (by omega)] at hg
   obtain rfl := Option.some.inj hg
   exact ⟨he, hI⟩
set_option maxHeartbeats 8000000 in
set_option maxRecDepth 100000 in
theorem works_walk (k : Nat) (a0 : Int) (a1 : Int) (r : List (List S23)) (w : World) (h : wksF k a0 a1 = some r) :
  Calls Try.prog 46 #[.int .i64 a0, .int .i64 a1] w fun e w' => ∃ v0_ : Value, e = .returned (v0_) ∧ Kd.S (Kd.slice 23 k23) 28 w' w.heap.size (fun _ => True) v0_ r ∧ Below w.heap.size w w' := by
 have hu23 := Try.underlying23
 have hmf : ∀ (fn : Fn) (first cap : Array Value) (w : World), (Instr.makeFunc fn first cap).run Try.prog w = .ok (.func fn first cap) w := fun _ _ _ _ => rfl
 have HB := Aside0.mk (Below.refl w.heap.size w)
 unfold wksF at h
 by_cases hg : 6 ≤ a1 ∧ a1 ≤ 120
 ·
  rw [if_pos hg] at h
  have HR := Aside0.mk h
  have HG := Aside0.mk hg
  clear h hg
  go_enter Try.func46, Try.ntmps46
  go_wp2_with (first | ((with_reducible refine gate_dst (N := 2) rfl ?_); (refine box_event ?hg (N := 2) ?hd (cs := #[.int .i64 a0]) (t := 3) ?hr ?_; (case hd => rfl); (case hg => rfl); (case hr => first | (go_simp; done) | (go_simp; rfl)); intro bh hg w1 hbox hb; have BKbh := Aside0.mk hbox; have n0_ := Aside0.mk (below_step (by repeat (first | (with_reducible first | exact HB.out | apply below_alloc | apply pw_below_drewN | apply below_drew1) | exact HB.out)) hb); clear HB ; have HB := n0_; clear n0_; clear hb hbox hg; )) | ((with_reducible refine gate_dst (N := 3) rfl ?_); (refine box_event ?hg (N := 3) ?hd (cs := #[.int .i64 a1]) (t := 3) ?hr ?_; (case hd => rfl); (case hg => rfl); (case hr => first | (go_simp; done) | (go_simp; rfl)); intro bm hg w2 hbox hb; have BKbm := Aside0.mk hbox; have n0_ := Aside0.mk (below_step (by repeat (first | (with_reducible first | exact HB.out | apply below_alloc | apply pw_below_drewN | apply below_drew1) | exact HB.out)) hb); have n1_ := Aside0.mk (blk_below (by (with_reducible repeat (first | refine blk_drewN ?_ _ | refine blk_drew ?_ | refine blk_alloc ?_ _)); exact BKbh.out) hb); clear HB BKbh; have HB := n0_; have BKbh := n1_; clear n0_ n1_; clear hb hbox hg; have hbBKbh0 : w2.cell? ⟨bh, 0, none⟩ = some (.int .i64 a0) := (blk_cell BKbh.out 0).trans rfl; have hbBKbm0 : w2.cell? ⟨bm, 0, none⟩ = some (.int .i64 a1) := (blk_cell BKbm.out 0).trans rfl)) | ((with_reducible refine gate_dst (N := 6) rfl ?_); (refine Kd.R_lit (Kd.tag (fun _ => 0) (Kd.slice 23 k23)) _ 28 ?hg (N := 6) ?hd (xs := ([] : List (List S23 × Nat))) (inner := []) (ok := fun _ => True) (okp := fun _ => True) ?hr ?hp (fun _ hk => hk) trivial (Below.refl _ _) (Nat.le_refl _) (by simp) ?_; (case hd => rfl); (case hg => rfl); (case hr => first | (go_simp; done) | (go_simp; rfl)); (case hp => exact (Reps.none _ _)); intro v8 w8 ho hb hg_ hnew_; clear hg_ hnew_; obtain ⟨A8, c8, rfl, hc8, hC8⟩ := Kd.R_reads ho; clear hc8 hC8; have HO := Aside0.mk (Kd.S_lower (show Kd.S (Kd.slice 23 k23) 28 w8 _ (fun _ => True) (.slice A8 0 c8) [] from ⟨fun _ => 0, ho⟩) (below_size (by repeat (first | (with_reducible first | exact HB.out | apply below_alloc | apply pw_below_drewN | apply below_drew1) | exact HB.out)))); have n0_ := Aside0.mk (below_step (by repeat (first | (with_reducible first | exact HB.out | apply below_alloc | apply pw_below_drewN | apply below_drew1) | exact HB.out)) hb); have n1_ := Aside0.mk (blk_below (by (with_reducible repeat (first | refine blk_drewN ?_ _ | refine blk_drew ?_ | refine blk_alloc ?_ _)); exact BKbh.out) hb); have n2_ := Aside0.mk (blk_below (by (with_reducible repeat (first | refine blk_drewN ?_ _ | refine blk_drew ?_ | refine blk_alloc ?_ _)); exact BKbm.out) hb); clear HB BKbh BKbm; have HB := n0_; have BKbh := n1_; have BKbm := n2_; clear n0_ n1_ n2_; clear hb ho; have hfBKbh0 : w8.cell? ⟨bh, 0, none⟩ = some (.int .i64 a0) := (blk_cell BKbh.out 0).trans rfl; have hfBKbm0 : w8.cell? ⟨bm, 0, none⟩ = some (.int .i64 a1) := (blk_cell BKbm.out 0).trans rfl)) | ((with_reducible refine gate_dst (N := 5) rfl ?_); (refine box_event ?hg (N := 5) ?hd (cs := #[.slice none 0 0]) (t := 34) ?hr ?_; (case hd => rfl); (case hg => rfl); (case hr => first | (go_simp; done) | (go_simp; rfl)); intro bo hg w9 hbox hb; have BKbo := Aside0.mk hbox; have n0_ := Aside0.mk (below_step (by repeat (first | (with_reducible first | exact HB.out | apply below_alloc | apply pw_below_drewN | apply below_drew1) | exact HB.out)) hb); have n1_ := Aside0.mk (blk_below (by (with_reducible repeat (first | refine blk_drewN ?_ _ | refine blk_drew ?_ | refine blk_alloc ?_ _)); exact BKbh.out) hb); have n2_ := Aside0.mk (blk_below (by (with_reducible repeat (first | refine blk_drewN ?_ _ | refine blk_drew ?_ | refine blk_alloc ?_ _)); exact BKbm.out) hb); have n3_ := Aside0.mk (Kd.S_below (by (with_reducible repeat (first | apply Kd.S_alloc | apply Kd.S_drewN | apply Kd.S_drew)); exact HO.out) hb); have GE := Aside0.mk (by rw [hg]; exact (below_size (by repeat (first | (with_reducible first | exact HB.out | apply below_alloc | apply pw_below_drewN | apply below_drew1) | exact HB.out))) : w.heap.size ≤ bo); clear HB BKbh BKbm HO; have HB := n0_; have BKbh := n1_; have BKbm := n2_; have HO := n3_; clear n0_ n1_ n2_ n3_; clear hb hbox hg; have hgBKbh0 : w9.cell? ⟨bh, 0, none⟩ = some (.int .i64 a0) := (blk_cell BKbh.out 0).trans rfl; have hgBKbm0 : w9.cell? ⟨bm, 0, none⟩ = some (.int .i64 a1) := (blk_cell BKbm.out 0).trans rfl; have hgBKbo0 : w9.cell? ⟨bo, 0, none⟩ = some (.slice none 0 0) := (blk_cell BKbo.out 0).trans rfl; have hfgBKbo0 := blk_frozen BKbo.out 0; have hnm1 := blk_ne BKbm.out BKbo.out (by decide); have hnm2 := hnm1.symm)) | (go_at_call 37; ((refine (works_each k w a0 a1 bh bm bo r (by have := HG.out; omega) (by have := HG.out; omega) _ ⟨blk_far (by (with_reducible repeat (first | refine blk_drewN ?_ _ | refine blk_drew ?_ | refine blk_alloc ?_ _)); exact BKbh.out) (blk_ne (by (with_reducible repeat (first | refine blk_drewN ?_ _ | refine blk_drew ?_ | refine blk_alloc ?_ _)); exact BKbh.out) (by (with_reducible repeat (first | refine blk_drewN ?_ _ | refine blk_drew ?_ | refine blk_alloc ?_ _)); exact BKbo.out) (by decide)) _, blk_far (by (with_reducible repeat (first | refine blk_drewN ?_ _ | refine blk_drew ?_ | refine blk_alloc ?_ _)); exact BKbm.out) (blk_ne (by (with_reducible repeat (first | refine blk_drewN ?_ _ | refine blk_drew ?_ | refine blk_alloc ?_ _)); exact BKbm.out) (by (with_reducible repeat (first | refine blk_drewN ?_ _ | refine blk_drew ?_ | refine blk_alloc ?_ _)); exact BKbo.out) (by decide)) _, ⟨_, blk_put (by (with_reducible repeat (first | refine blk_drewN ?_ _ | refine blk_drew ?_ | refine blk_alloc ?_ _)); exact BKbo.out) 0 _ rfl, Kd.S_set (by (with_reducible repeat (first | apply Kd.S_alloc | apply Kd.S_drewN | apply Kd.S_drew)); exact HO.out) (by (with_reducible repeat (first | refine blk_drewN ?_ _ | refine blk_drew ?_ | refine blk_alloc ?_ _)); exact BKbo.out) (by decide) 0 _⟩, GE.out, below_set (by repeat (first | (with_reducible first | exact HB.out | apply below_alloc | apply pw_below_drewN | apply below_drew1) | exact HB.out)) GE.out⟩ HR.out).mono ?_); rintro e w10 ⟨rfl, hI⟩; obtain ⟨h1, h2, ⟨v, ho, hS⟩, hge, hB⟩ := hI; obtain ⟨A, c, rfl, hc, hC⟩ := Kd.S_reads hS; clear h1 h2 hge hc hC; have hco : w10.cell? ⟨bo, 0, none⟩ = some (.slice A r.length c) := (blk_cell ho 0).trans rfl; have HRR := Aside0.mk hS; have HBB := Aside0.mk hB; clear ho hS hB)))
  go_ret
  exact ⟨_, rfl, (by (with_reducible repeat (first | apply Kd.S_alloc | apply Kd.S_drewN | apply Kd.S_drew)); exact HRR.out), (by repeat (first | (with_reducible first | exact HBB.out | apply below_alloc | apply pw_below_drewN | apply below_drew1) | exact HBB.out))⟩
 ·
  rw [if_neg hg] at h
  cases h

def impl_works.f (k : Nat) (a0 : Int) (a1 : Int) : Option (List (List S23)) := wksF k a0 a1
theorem impl_works.calls (k : Nat) (a0 : Int) (a1 : Int) (r : List (List (S23))) (w : World) (h : impl_works.f k a0 a1 = some r) :
  Calls Try.prog 46 #[.int .i64 a0, .int .i64 a1] w fun e w' => ∃ v0_ : Value, e = .returned (v0_) ∧ Kd.S (Kd.slice 23 k23) 28 w' w.heap.size (fun _ => True) v0_ r ∧ Below w.heap.size w w' := works_walk k a0 a1 r w h

/-! ### impl_teeth: function 47 -/
def impl_teeth.l0 : Nat → Int → List (S23) → Int → Int → Option (Int)
 | 0, _, _, _, _ => none
 | k + 1, x3, x6, x7, x8 => if x8 < x7 then (if 0 ≤ x8 then (if x8 < (x6.length : Int) then (impl_teeth.l0 k (wrap64 (x3 + (wrap64 (((rd_T23 x6 x8).f0) + ((rd_T23 x6 x8).f1))))) x6 x7 (wrap64 (x8 + 1))) else (none)) else (none)) else (some x3)
def impl_teeth.f (k : Nat) (l0 : List (S23)) : Option (Int) := impl_teeth.l0 k 0 l0 (l0.length : Int) 0
set_option maxHeartbeats 8000000 in
set_option maxRecDepth 100000 in
theorem impl_teeth.calls (k : Nat) (A0 : Option Addr) (c0 : Nat) (l0 : List (S23)) (r : Int) (w : World) (hr0 : Kd.C k23 w A0 l0.length l0) (hc0 : l0.length ≤ c0) (h : impl_teeth.f k l0 = some r) :
  Calls Try.prog 47 #[.slice A0 l0.length c0] w fun e w' => e = .returned (.int .i64 r) ∧ Below w.heap.size w w' := by
 have hu23 := Try.underlying23
 have HR0 := Aside0.mk hr0
 have HC0 := Aside0.mk hc0
 clear hr0 hc0
 have HB := Aside0.mk (Below.refl w.heap.size w)
 have H : (impl_teeth.l0 k 0 l0 (l0.length : Int) 0) = some r := h
 clear h
 have H' := Aside0.mk H
 clear H
 go_enter Try.func47, Try.ntmps47
 go_wp2
 go_loopg [3, 8] k (fun kq v3 v8 w' => ∃ (x3_1 : Int) (x8_1 : Int), v3 = .int .i64 x3_1 ∧ v8 = .int .i64 x8_1 ∧ Aside0 (impl_teeth.l0 kq x3_1 l0 (l0.length : Int) x8_1 = some r) ∧ Aside0 (kq ≤ k) ∧ Aside0 (Below w.heap.size w w'))
 case atStart => exact ⟨(0), (0), (by first | rfl | (simp; done) | (simp [*]; done)), (by first | rfl | (simp; done) | (simp [*]; done)), H', ⟨Nat.le_refl _⟩, ⟨by repeat (first | (with_reducible first | exact HB.out | apply below_alloc | apply pw_below_drewN | apply below_drew1) | exact HB.out)⟩⟩
 case round =>
  clear H'
  obtain ⟨x3_1, x8_1, rfl, rfl, HA, HK1, HB⟩ := hrel
  cases gk with
  | zero => exact absurd HA.out (by simp [impl_teeth.l0])
  | succ k1 =>
   have H := HA.out
   clear HA
   simp only [impl_teeth.l0] at H
   by_cases c2 : x8_1 < (l0.length : Int)
   ·
    rw [if_pos c2] at H
    have c2b0 : decide (x8_1 < (l0.length : Int)) = true := decide_eq_true c2
    clear c2
    by_cases c3 : 0 ≤ x8_1
    ·
     rw [if_pos c3] at H
     have c3b0 : decide (0 ≤ x8_1) = true := decide_eq_true c3
     clear c3
     by_cases c4 : x8_1 < (l0.length : Int)
     ·
      rw [if_pos c4] at H
      have c4b0 : decide (x8_1 < (l0.length : Int)) = true := decide_eq_true c4
      clear c4
      as_aux_lemma =>
       have H' := Aside0.mk H
       clear H
       have p131 : 0 ≤ (x8_1 : Int) := of_decide_eq_true (by first | (with_reducible assumption) | assumption)
       have q131 : x8_1 < (l0.length : Int) := of_decide_eq_true (by first | (with_reducible assumption) | assumption)
       obtain ⟨ad131, e131, hx131_0, hx131_1⟩ := at_T23 HR0.out x8_1 p131 q131
       cases e131
       replace hx131_0 := (HB.out.cell (World.block_lt_of_cell? w _ hx131_0)).trans hx131_0
       replace hx131_1 := (HB.out.cell (World.block_lt_of_cell? w _ hx131_1)).trans hx131_1
       replace p131 := eq_true p131
       replace q131 := eq_true q131
       go_wp2_with (first | ((with_reducible refine gate_dst (N := 5) rfl ?_); refine box_event ?hg (N := 5) ?hd (cs := #[.int .i64 0, .int .i64 0]) (t := 23) ?hr ?_; (case hd => rfl); (case hg => rfl); (case hr => first | (go_simp; done) | (go_simp; rfl)); intro gb132 hg w5 hbox hb; have n0_ := Aside0.mk (below_step (by repeat (first | (with_reducible first | exact HB.out | apply below_alloc | apply pw_below_drewN | apply below_drew1) | exact HB.out)) hb); have n1_ := Aside0.mk (hbox); have n2_ := Aside0.mk ((by rw [hg]; exact (below_size (by repeat (first | (with_reducible first | exact HB.out | apply below_alloc | apply pw_below_drewN | apply below_drew1) | exact HB.out))) : w.heap.size ≤ gb132)); have n3_ := Aside0.mk ((by rw [hg]; exact (below_size (by repeat (first | (with_reducible first | exact HB.out | apply below_alloc | apply pw_below_drewN | apply below_drew1) | exact HB.out))) : w.heap.size ≤ gb132)); clear HB; have HB := n0_; have BK132 := n1_; have GW132 := n2_; have GE132 := n3_; clear n0_ n1_ n2_ n3_; clear hb hbox hg; have hcz6_0 : w5.cell? ⟨gb132, 0, none⟩ = some (.int .i64 0) := (blk_cell BK132.out 0).trans rfl; have hcz6_1 : w5.cell? ⟨gb132, 1, none⟩ = some (.int .i64 0) := (blk_cell BK132.out 1).trans rfl; have hfz6_0 := blk_frozen BK132.out 0; have hfz6_1 := blk_frozen BK132.out 1))
       go_roundg k1
       case measure => have := HK1.out; omega
       case rel => exact ⟨(wrap64 (x3_1 + (wrap64 (((rd_T23 l0 x8_1).f0) + ((rd_T23 l0 x8_1).f1))))), (wrap64 (x8_1 + 1)), (by first | rfl | (simp; done) | (simp [*]; done)), (by first | rfl | (simp; done) | (simp [*]; done)), H', ⟨by have := HK1.out; omega⟩, ⟨by repeat (first | (with_reducible first | exact HB.out | apply below_alloc | apply pw_below_drewN | apply below_drew1 | refine below_set ?_ GE132.out) | exact HB.out)⟩⟩
     ·
      rw [if_neg c4] at H
      exact absurd H (by simp)
    ·
     rw [if_neg c3] at H
     exact absurd H (by simp)
   ·
    rw [if_neg c2] at H
    have c2b0 : decide (x8_1 < (l0.length : Int)) = false := decide_eq_false c2
    clear c2
    as_aux_lemma =>
     obtain rfl := Option.some.inj H
     go_wp2
     go_ret
     exact ⟨by first | rfl | (simp [errW_none, errW_some] <;> rfl) | (simp [*, errW_none, errW_some] <;> rfl), by repeat (first | (with_reducible first | exact HB.out | apply below_alloc | apply pw_below_drewN | apply below_drew1) | exact HB.out)⟩

end Go.Proofs.Ytofjjfaaadllmaa.GFnTrainsFoundOfAll
