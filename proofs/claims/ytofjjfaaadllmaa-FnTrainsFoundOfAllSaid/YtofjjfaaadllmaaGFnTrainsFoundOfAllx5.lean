-- Written by a program of this session (a copy of the kit's print program that takes contracts of one's own); Lean checks it.
import Derived.Test.YtofjjfaaadllmaaGFnTrainsFoundOfAllx0
import Derived.Test.YtofjjfaaadllmaaGFnTrainsFoundOfAllx2
import Derived.Test.YtofjjfaaadllmaaGFnTrainsFoundOfAllx3
import Derived.Test.YtofjjfaaadllmaaGFnTrainsFoundOfAllx4
namespace Go.Proofs.Ytofjjfaaadllmaa.GFnTrainsFoundOfAll
open Go.RowKit Go.Proofs.YtofjjfaaadllmaaW.PrintWords Go.Proofs.YtofjjfaaadllmaaW.PrintLast Go.Proofs.YtofjjfaaadllmaaW.PrintMore
attribute [local go_sem] max2_int min2_int max_two min_two max_three min_three max_four min_four IntWalk.i64_left   -- for this text's walks alone
set_option linter.unusedVariables false
set_option linter.unusedSimpArgs false

/-! ### impl_bestTrain: function 49 -/
set_option maxHeartbeats 8000000 in
set_option maxRecDepth 100000 in
theorem each_best (q0 q1 q2 q3 q4 : Option Addr) (m : Int) (hm : 5 ≤ m) (hm' : m ≤ 1000) (I : Int → Int → World → Prop)
  (hstep : ∀ d f w, 6 ≤ d → d ≤ m → 6 ≤ f → f ≤ m → I d f w → Calls Try.prog 58 #[.agg #[.int .i64 d, .int .i64 f], .pointer q0, .pointer q1, .pointer q2, .pointer q3, .pointer q4] w fun e w' => e = .returned (.tuple #[]) ∧ I d (f + 1) w')
  (hnext : ∀ d w, I d (m + 1) w → I (d + 1) 6 w) (w : World) (h0 : I 6 6 w) :
  Calls Try.prog 37 #[.int .i64 m, .func (.func 58) #[] #[.pointer q0, .pointer q1, .pointer q2, .pointer q3, .pointer q4]] w fun e w' => e = .returned (.tuple #[]) ∧ I (m + 1) 6 w' := by
 have HM := Aside0.mk (And.intro hm hm')
 clear hm hm'
 have HS := Aside0.mk hstep
 have HN := Aside0.mk hnext
 have H0 := Aside0.mk h0
 clear hstep hnext h0
 go_enter Try.func37, Try.ntmps37
 go_wp2
 go_loopg [4] m.toNat (fun gk v4 w' => ∃ (d : Int), v4 = .int .i64 d ∧ Aside0 (6 ≤ d ∧ d ≤ m + 1 ∧ d + gk = m + 6) ∧ Aside0 (I d 6 w'))
 case atStart => exact ⟨6, rfl, ⟨by have := HM.out; omega⟩, H0⟩
 case round =>
  obtain ⟨d, rfl, HD, HI⟩ := hrel
  by_cases hlt : d ≤ m
  ·
   obtain ⟨k1, rfl⟩ : ∃ k1, gk = k1 + 1 := ⟨gk - 1, by have := HD.out; omega⟩
   have c1 : decide (d ≤ m) = true := decide_eq_true hlt
   have HL := Aside0.mk hlt
   clear hlt
   go_wp2
   go_loopg [5] m.toNat (fun gk v5 w' => ∃ (f : Int), v5 = .int .i64 f ∧ Aside0 (6 ≤ f ∧ f ≤ m + 1 ∧ f + gk = m + 6) ∧ Aside0 (I d f w'))
   case atStart => exact ⟨6, rfl, ⟨by have := HM.out; have := HL.out; have := HD.out; omega⟩, HI⟩
   case round =>
    try clear c1
    obtain ⟨f, rfl, HF, HI⟩ := hrel
    by_cases hlf : f ≤ m
    ·
     obtain ⟨k2, rfl⟩ : ∃ k2, gk = k2 + 1 := ⟨gk - 1, by have := HF.out; omega⟩
     have c2 : decide (f ≤ m) = true := decide_eq_true hlf
     have HLF := Aside0.mk hlf
     clear hlf
     go_wp2_with (first | (go_at_call 58; (refine (HS.out d f _ ?ha ?hb ?hc ?hd HI.out).mono ?_); (case ha => have := HD.out; omega); (case hb => exact HL.out); (case hc => have := HF.out; omega); (case hd => exact HLF.out); rintro e w1 ⟨rfl, hi⟩; have HI1 := Aside0.mk hi; clear hi))
     go_roundg k2
     case measure => omega
     case rel =>
      refine ⟨f + 1, ?_, ⟨by have := HF.out; have := HLF.out; omega⟩, HI1⟩
      have := HF.out
      have := HLF.out
      have := HM.out
      rw [IntWalk.wrap64_in (f + 1) ⟨by omega, by omega⟩]
    ·
     have c2 : decide (f ≤ m) = false := decide_eq_false hlf
     have HLF := Aside0.mk hlf
     clear hlf
     go_wp2
     go_roundg k1
     case measure => omega
     case rel =>
      refine ⟨d + 1, ?_, ⟨by have := HD.out; have := HL.out; have := HM.out; omega⟩, ⟨HN.out d _ ?_⟩⟩
      ·
       have := HD.out
       have := HL.out
       have := HM.out
       rw [IntWalk.wrap64_in (d + 1) ⟨by omega, by omega⟩]
      ·
       have e : f = m + 1 := by
        have := HF.out
        have := HLF.out
        omega
       rw [← e]
       exact HI.out
  ·
   have c1 : decide (d ≤ m) = false := decide_eq_false hlt
   have HL := Aside0.mk hlt
   clear hlt
   go_wp2
   go_end0
   refine ⟨rfl, ?_⟩
   have e : d = m + 1 := by
    have := HD.out
    have := HL.out
    omega
   rw [← e]
   exact HI.out


def bsN (k : Nat) (few : Bool) (tr : List S23) (ok : Bool) (out : List S23) : Option (List S23) :=
 if ok = true then (if out.length = 0 then some tr else if few = true then (impl_teeth.f k tr).bind fun a => (impl_teeth.f k out).bind fun b => if a < b then some tr else some out else some out) else some out
structure BtI (W0 : World) (bn bd bm bo bf : Nat) (nm dn m : Int) (few : Bool) (out : List S23) (w : World) : Prop where
 hn : w.heap[bn]? = some (.cells #[.int .i64 nm] 3 (0, 0))
 hd : w.heap[bd]? = some (.cells #[.int .i64 dn] 3 (0, 0))
 hm : w.heap[bm]? = some (.cells #[.int .i64 m] 3 (0, 0))
 hf : w.heap[bf]? = some (.cells #[.bool few] 4 (0, 0))
 ho : ∃ v, w.heap[bo]? = some (.cells #[v] 28 (0, 0)) ∧ Kd.R k23 23 w W0.heap.size (fun _ => True) v out
 ge : W0.heap.size ≤ bo
 hB : Below W0.heap.size W0 w
theorem region_quiet_in {P : Program} {id : Nat} {Q : Exit → Act → World → Prop} {a : Act} {w : World} {l : List Oper} (C : World → Prop) (hm : P.follows .mixedOrders = true) (hB : Region.lexB .any l.toArray = true) (hC : C w.drew)
  (h : wpQuiet P l.toArray C (fun a' => ∀ w', C w' → Q .normal a' w') l a) : (Code.region id l.toArray true).wp P Q a w := wp_region_quiet hm hB hC (by simpa using h)
structure BtC (W0 : World) (bn bd bm bo bf : Nat) (nm dn m : Int) (few : Bool) (A : Option Addr) (c : Nat) (out : List S23) (A8 : Option Addr) (c8 : Nat) (tr : List S23) where
 w : World
 hn : w.heap[bn]? = some (.cells #[.int .i64 nm] 3 (0, 0))
 hd : w.heap[bd]? = some (.cells #[.int .i64 dn] 3 (0, 0))
 hm : w.heap[bm]? = some (.cells #[.int .i64 m] 3 (0, 0))
 hf : w.heap[bf]? = some (.cells #[.bool few] 4 (0, 0))
 ho : w.heap[bo]? = some (.cells #[.slice A out.length c] 28 (0, 0))
 hR : Kd.R k23 23 w W0.heap.size (fun _ => True) (.slice A out.length c) out
 hT : Kd.R k23 23 w W0.heap.size (fun _ => True) (.slice A8 tr.length c8) tr
 hB : Below W0.heap.size W0 w
section
variable {W0 : World} {bn bd bm bo bf : Nat} {nm dn m : Int} {few : Bool} {A : Option Addr} {c : Nat} {out : List S23} {A8 : Option Addr} {c8 : Nat} {tr : List S23}
def BtC.step (p : BtC W0 bn bd bm bo bf nm dn m few A c out A8 c8 tr) {w : World} (hb : Below p.w.heap.size p.w w) : BtC W0 bn bd bm bo bf nm dn m few A c out A8 c8 tr :=
 ⟨w, blk_below p.hn hb, blk_below p.hd hb, blk_below p.hm hb, blk_below p.hf hb, blk_below p.ho hb, Kd.R_below p.hR hb, Kd.R_below p.hT hb, below_step p.hB hb⟩
theorem BtC.teethT (k : Nat) (p : BtC W0 bn bd bm bo bf nm dn m few A c out A8 c8 tr) {a : Int} (h : impl_teeth.f k tr = some a) :
  Calls Try.prog 47 #[.slice A8 tr.length c8] p.w fun e w' => e = .returned (.int .i64 a) ∧ ∃ q : BtC W0 bn bd bm bo bf nm dn m few A c out A8 c8 tr, w' = q.w :=
 (impl_teeth.calls k A8 c8 tr a _ (Kd.R_reads' p.hT).2.2 (Kd.R_reads' p.hT).2.1 h).mono fun _ _ ⟨he, hb⟩ => ⟨he, p.step hb, rfl⟩
theorem BtC.teethO (k : Nat) (p : BtC W0 bn bd bm bo bf nm dn m few A c out A8 c8 tr) {a : Int} (h : impl_teeth.f k out = some a) :
  Calls Try.prog 47 #[.slice A out.length c] p.w fun e w' => e = .returned (.int .i64 a) ∧ ∃ q : BtC W0 bn bd bm bo bf nm dn m few A c out A8 c8 tr, w' = q.w :=
 (impl_teeth.calls k A c out a _ (Kd.R_reads' p.hR).2.2 (Kd.R_reads' p.hR).2.1 h).mono fun _ _ ⟨he, hb⟩ => ⟨he, p.step hb, rfl⟩
theorem BtC.cellO (p : BtC W0 bn bd bm bo bf nm dn m few A c out A8 c8 tr) : p.w.cell? ⟨bo, 0, none⟩ = some (.slice A out.length c) := (blk_cell p.ho 0).trans rfl
theorem BtC.cellF (p : BtC W0 bn bd bm bo bf nm dn m few A c out A8 c8 tr) : p.w.cell? ⟨bf, 0, none⟩ = some (.bool few) := (blk_cell p.hf 0).trans rfl
theorem BtC.store (p : BtC W0 bn bd bm bo bf nm dn m few A c out A8 c8 tr) (ge : W0.heap.size ≤ bo) (v : Value) (hv : v = .slice A8 tr.length c8) : BtI W0 bn bd bm bo bf nm dn m few tr (p.w.setCell ⟨bo, 0, none⟩ v) :=
 hv ▸ ⟨blk_far p.hn (blk_ne p.ho p.hn (by decide)).symm _, blk_far p.hd (blk_ne p.ho p.hd (by decide)).symm _, blk_far p.hm (blk_ne p.ho p.hm (by decide)).symm _, blk_far p.hf (blk_ne p.ho p.hf (by decide)).symm _, ⟨_, blk_put p.ho 0 _ rfl, Kd.R_set p.hT p.ho (by decide) 0 _⟩, ge, below_set p.hB ge⟩
theorem BtC.skip (p : BtC W0 bn bd bm bo bf nm dn m few A c out A8 c8 tr) (ge : W0.heap.size ≤ bo) : BtI W0 bn bd bm bo bf nm dn m few out p.w :=
 ⟨p.hn, p.hd, p.hm, p.hf, ⟨_, p.ho, p.hR⟩, ge, p.hB⟩
end
set_option maxHeartbeats 8000000 in
set_option maxRecDepth 100000 in
theorem best_visit (k : Nat) (W0 : World) (d f nm dn m n0 n1 : Int) (ok few : Bool) (bn bd bm bo bf : Nat) (out out' : List S23) (w : World) (h : BtI W0 bn bd bm bo bf nm dn m few out w)
  (hp : impl_firstPair.f k (wrap64 (nm * f)) (wrap64 (dn * d)) m = some (n0, n1, ok)) (hs : bsN k few [⟨d, f⟩, ⟨n0, n1⟩] ok out = some out') :
  Calls Try.prog 58 #[.agg #[.int .i64 d, .int .i64 f], .pointer (some ⟨bn, 0, none⟩), .pointer (some ⟨bd, 0, none⟩), .pointer (some ⟨bm, 0, none⟩), .pointer (some ⟨bo, 0, none⟩), .pointer (some ⟨bf, 0, none⟩)] w fun e w' => e = .returned (.tuple #[]) ∧ BtI W0 bn bd bm bo bf nm dn m few out' w' := by
 have hu23 := Try.underlying23
 obtain ⟨hn, hd, hm, hf, ⟨v, ho, hR⟩, hge, hB⟩ := h
 obtain ⟨A, c, rfl, hc, hC⟩ := Kd.R_reads hR
 have No := Aside0.mk (blk_ne ho hn (by decide))
 have Nd := Aside0.mk (blk_ne ho hd (by decide))
 have Nm := Aside0.mk (blk_ne ho hm (by decide))
 have Nf := Aside0.mk (blk_ne ho hf (by decide))
 have HB := Aside0.mk hB
 have GE := Aside0.mk hge
 have BKn := Aside0.mk hn
 have BKd := Aside0.mk hd
 have BKm := Aside0.mk hm
 have BKf := Aside0.mk hf
 have BKo := Aside0.mk ho
 have HO := Aside0.mk hR
 have HF := Aside0.mk hp
 have HS := Aside0.mk hs
 clear hn hd hm hf ho hR hge hB hC hc hp hs
 go_enter Try.func58, Try.ntmps58
 go_wp2_with (first | ((with_reducible refine gate_dst (N := 6) rfl ?_); refine box_event ?hg (N := 6) ?hd (cs := #[.int .i64 d, .int .i64 f]) (t := 23) ?hr ?_; (case hd => rfl); (case hg => rfl); (case hr => first | (go_simp; done) | (go_simp; rfl)); intro g hg w1 hbox hb; have BKg := Aside0.mk hbox; have n0_ := Aside0.mk (below_step (by repeat (first | (with_reducible first | exact HB.out | apply below_alloc | apply pw_below_drewN | apply below_drew1) | exact HB.out)) hb); have n1_ := Aside0.mk (blk_below (by (with_reducible repeat (first | refine blk_drewN ?_ _ | refine blk_drew ?_ | refine blk_alloc ?_ _)); exact BKn.out) hb); have n2_ := Aside0.mk (blk_below (by (with_reducible repeat (first | refine blk_drewN ?_ _ | refine blk_drew ?_ | refine blk_alloc ?_ _)); exact BKd.out) hb); have n3_ := Aside0.mk (blk_below (by (with_reducible repeat (first | refine blk_drewN ?_ _ | refine blk_drew ?_ | refine blk_alloc ?_ _)); exact BKm.out) hb); have n4_ := Aside0.mk (blk_below (by (with_reducible repeat (first | refine blk_drewN ?_ _ | refine blk_drew ?_ | refine blk_alloc ?_ _)); exact BKf.out) hb); have n5_ := Aside0.mk (blk_below (by (with_reducible repeat (first | refine blk_drewN ?_ _ | refine blk_drew ?_ | refine blk_alloc ?_ _)); exact BKo.out) hb); have n6_ := Aside0.mk (Kd.R_below (by (with_reducible repeat (first | apply Kd.R_alloc | apply Kd.R_drewN | apply Kd.R_drew)); exact HO.out) hb); have NBKng := Aside0.mk ((by rw [hg]; exact Nat.ne_of_lt (blk_lt (by (with_reducible repeat (first | refine blk_drewN ?_ _ | refine blk_drew ?_ | refine blk_alloc ?_ _)); exact BKn.out))) : bn ≠ g); have NBKdg := Aside0.mk ((by rw [hg]; exact Nat.ne_of_lt (blk_lt (by (with_reducible repeat (first | refine blk_drewN ?_ _ | refine blk_drew ?_ | refine blk_alloc ?_ _)); exact BKd.out))) : bd ≠ g); have NBKmg := Aside0.mk ((by rw [hg]; exact Nat.ne_of_lt (blk_lt (by (with_reducible repeat (first | refine blk_drewN ?_ _ | refine blk_drew ?_ | refine blk_alloc ?_ _)); exact BKm.out))) : bm ≠ g); have NBKfg := Aside0.mk ((by rw [hg]; exact Nat.ne_of_lt (blk_lt (by (with_reducible repeat (first | refine blk_drewN ?_ _ | refine blk_drew ?_ | refine blk_alloc ?_ _)); exact BKf.out))) : bf ≠ g); have NBKog := Aside0.mk ((by rw [hg]; exact Nat.ne_of_lt (blk_lt (by (with_reducible repeat (first | refine blk_drewN ?_ _ | refine blk_drew ?_ | refine blk_alloc ?_ _)); exact BKo.out))) : bo ≠ g); clear HB BKn BKd BKm BKf BKo HO; have HB := n0_; have BKn := n1_; have BKd := n2_; have BKm := n3_; have BKf := n4_; have BKo := n5_; have HO := n6_; clear n0_ n1_ n2_ n3_ n4_ n5_ n6_; clear hb hbox hg; have haBKn0 : w1.cell? ⟨bn, 0, none⟩ = some (.int .i64 nm) := (blk_cell BKn.out 0).trans rfl; have haBKd0 : w1.cell? ⟨bd, 0, none⟩ = some (.int .i64 dn) := (blk_cell BKd.out 0).trans rfl; have haBKm0 : w1.cell? ⟨bm, 0, none⟩ = some (.int .i64 m) := (blk_cell BKm.out 0).trans rfl; have haBKf0 : w1.cell? ⟨bf, 0, none⟩ = some (.bool few) := (blk_cell BKf.out 0).trans rfl; have haBKo0 : w1.cell? ⟨bo, 0, none⟩ = some (.slice A out.length c) := (blk_cell BKo.out 0).trans rfl; have hfaBKo0 := blk_frozen BKo.out 0; have haBKg0 : w1.cell? ⟨g, 0, none⟩ = some (.int .i64 d) := (blk_cell BKg.out 0).trans rfl; have haBKg1 : w1.cell? ⟨g, 1, none⟩ = some (.int .i64 f) := (blk_cell BKg.out 1).trans rfl) | (go_at_call 52; (refine (impl_firstPair.calls k _ _ _ n0 n1 ok _ HF.out).mono ?_); rintro e w2 ⟨rfl, hb⟩; have n0_ := Aside0.mk (below_step (by repeat (first | (with_reducible first | exact HB.out | apply below_alloc | apply pw_below_drewN | apply below_drew1) | exact HB.out)) hb); have n1_ := Aside0.mk (blk_below (by (with_reducible repeat (first | refine blk_drewN ?_ _ | refine blk_drew ?_ | refine blk_alloc ?_ _)); exact BKn.out) hb); have n2_ := Aside0.mk (blk_below (by (with_reducible repeat (first | refine blk_drewN ?_ _ | refine blk_drew ?_ | refine blk_alloc ?_ _)); exact BKd.out) hb); have n3_ := Aside0.mk (blk_below (by (with_reducible repeat (first | refine blk_drewN ?_ _ | refine blk_drew ?_ | refine blk_alloc ?_ _)); exact BKm.out) hb); have n4_ := Aside0.mk (blk_below (by (with_reducible repeat (first | refine blk_drewN ?_ _ | refine blk_drew ?_ | refine blk_alloc ?_ _)); exact BKf.out) hb); have n5_ := Aside0.mk (blk_below (by (with_reducible repeat (first | refine blk_drewN ?_ _ | refine blk_drew ?_ | refine blk_alloc ?_ _)); exact BKo.out) hb); have n6_ := Aside0.mk (blk_below (by (with_reducible repeat (first | refine blk_drewN ?_ _ | refine blk_drew ?_ | refine blk_alloc ?_ _)); exact BKg.out) hb); have n7_ := Aside0.mk (Kd.R_below (by (with_reducible repeat (first | apply Kd.R_alloc | apply Kd.R_drewN | apply Kd.R_drew)); exact HO.out) hb); clear HB BKn BKd BKm BKf BKo BKg HO; have HB := n0_; have BKn := n1_; have BKd := n2_; have BKm := n3_; have BKf := n4_; have BKo := n5_; have BKg := n6_; have HO := n7_; clear n0_ n1_ n2_ n3_ n4_ n5_ n6_ n7_; clear hb; have hbBKn0 : w2.cell? ⟨bn, 0, none⟩ = some (.int .i64 nm) := (blk_cell BKn.out 0).trans rfl; have hbBKd0 : w2.cell? ⟨bd, 0, none⟩ = some (.int .i64 dn) := (blk_cell BKd.out 0).trans rfl; have hbBKm0 : w2.cell? ⟨bm, 0, none⟩ = some (.int .i64 m) := (blk_cell BKm.out 0).trans rfl; have hbBKf0 : w2.cell? ⟨bf, 0, none⟩ = some (.bool few) := (blk_cell BKf.out 0).trans rfl; have hbBKo0 : w2.cell? ⟨bo, 0, none⟩ = some (.slice A out.length c) := (blk_cell BKo.out 0).trans rfl; have hfbBKo0 := blk_frozen BKo.out 0; have hbBKg0 : w2.cell? ⟨g, 0, none⟩ = some (.int .i64 d) := (blk_cell BKg.out 0).trans rfl; have hbBKg1 : w2.cell? ⟨g, 1, none⟩ = some (.int .i64 f) := (blk_cell BKg.out 1).trans rfl) | ((with_reducible refine gate_dst (N := 7) rfl ?_); refine box_event ?hg (N := 7) ?hd (cs := #[.int .i64 0, .int .i64 0]) (t := 23) ?hr ?_; (case hd => rfl); (case hg => rfl); (case hr => first | (go_simp; done) | (go_simp; rfl)); intro q hg w3 hbox hb; have BKq := Aside0.mk hbox; have n0_ := Aside0.mk (below_step (by repeat (first | (with_reducible first | exact HB.out | apply below_alloc | apply pw_below_drewN | apply below_drew1) | exact HB.out)) hb); have n1_ := Aside0.mk (blk_below (by (with_reducible repeat (first | refine blk_drewN ?_ _ | refine blk_drew ?_ | refine blk_alloc ?_ _)); exact BKn.out) hb); have n2_ := Aside0.mk (blk_below (by (with_reducible repeat (first | refine blk_drewN ?_ _ | refine blk_drew ?_ | refine blk_alloc ?_ _)); exact BKd.out) hb); have n3_ := Aside0.mk (blk_below (by (with_reducible repeat (first | refine blk_drewN ?_ _ | refine blk_drew ?_ | refine blk_alloc ?_ _)); exact BKm.out) hb); have n4_ := Aside0.mk (blk_below (by (with_reducible repeat (first | refine blk_drewN ?_ _ | refine blk_drew ?_ | refine blk_alloc ?_ _)); exact BKf.out) hb); have n5_ := Aside0.mk (blk_below (by (with_reducible repeat (first | refine blk_drewN ?_ _ | refine blk_drew ?_ | refine blk_alloc ?_ _)); exact BKo.out) hb); have n6_ := Aside0.mk (blk_below (by (with_reducible repeat (first | refine blk_drewN ?_ _ | refine blk_drew ?_ | refine blk_alloc ?_ _)); exact BKg.out) hb); have n7_ := Aside0.mk (Kd.R_below (Kd.R_elderB (by (with_reducible repeat (first | apply Kd.R_alloc | apply Kd.R_drewN | apply Kd.R_drew)); exact HO.out) q (Nat.le_of_eq hg.symm)) hb); have GEq := Aside0.mk (by rw [hg]; exact (below_size (by repeat (first | (with_reducible first | exact HB.out | apply below_alloc | apply pw_below_drewN | apply below_drew1) | exact HB.out))) : W0.heap.size ≤ q); have NBKnq := Aside0.mk ((by rw [hg]; exact Nat.ne_of_lt (blk_lt (by (with_reducible repeat (first | refine blk_drewN ?_ _ | refine blk_drew ?_ | refine blk_alloc ?_ _)); exact BKn.out))) : bn ≠ q); have NBKdq := Aside0.mk ((by rw [hg]; exact Nat.ne_of_lt (blk_lt (by (with_reducible repeat (first | refine blk_drewN ?_ _ | refine blk_drew ?_ | refine blk_alloc ?_ _)); exact BKd.out))) : bd ≠ q); have NBKmq := Aside0.mk ((by rw [hg]; exact Nat.ne_of_lt (blk_lt (by (with_reducible repeat (first | refine blk_drewN ?_ _ | refine blk_drew ?_ | refine blk_alloc ?_ _)); exact BKm.out))) : bm ≠ q); have NBKfq := Aside0.mk ((by rw [hg]; exact Nat.ne_of_lt (blk_lt (by (with_reducible repeat (first | refine blk_drewN ?_ _ | refine blk_drew ?_ | refine blk_alloc ?_ _)); exact BKf.out))) : bf ≠ q); have NBKoq := Aside0.mk ((by rw [hg]; exact Nat.ne_of_lt (blk_lt (by (with_reducible repeat (first | refine blk_drewN ?_ _ | refine blk_drew ?_ | refine blk_alloc ?_ _)); exact BKo.out))) : bo ≠ q); have NBKgq := Aside0.mk ((by rw [hg]; exact Nat.ne_of_lt (blk_lt (by (with_reducible repeat (first | refine blk_drewN ?_ _ | refine blk_drew ?_ | refine blk_alloc ?_ _)); exact BKg.out))) : g ≠ q); clear HB BKn BKd BKm BKf BKo BKg HO; have HB := n0_; have BKn := n1_; have BKd := n2_; have BKm := n3_; have BKf := n4_; have BKo := n5_; have BKg := n6_; have HO := n7_; clear n0_ n1_ n2_ n3_ n4_ n5_ n6_ n7_; clear hb hbox hg; have hcBKn0 : w3.cell? ⟨bn, 0, none⟩ = some (.int .i64 nm) := (blk_cell BKn.out 0).trans rfl; have hcBKd0 : w3.cell? ⟨bd, 0, none⟩ = some (.int .i64 dn) := (blk_cell BKd.out 0).trans rfl; have hcBKm0 : w3.cell? ⟨bm, 0, none⟩ = some (.int .i64 m) := (blk_cell BKm.out 0).trans rfl; have hcBKf0 : w3.cell? ⟨bf, 0, none⟩ = some (.bool few) := (blk_cell BKf.out 0).trans rfl; have hcBKo0 : w3.cell? ⟨bo, 0, none⟩ = some (.slice A out.length c) := (blk_cell BKo.out 0).trans rfl; have hfcBKo0 := blk_frozen BKo.out 0; have hcBKg0 : w3.cell? ⟨g, 0, none⟩ = some (.int .i64 d) := (blk_cell BKg.out 0).trans rfl; have hcBKg1 : w3.cell? ⟨g, 1, none⟩ = some (.int .i64 f) := (blk_cell BKg.out 1).trans rfl; have hcBKq0 : w3.cell? ⟨q, 0, none⟩ = some (.int .i64 0) := (blk_cell BKq.out 0).trans rfl; have hfcBKq0 := blk_frozen BKq.out 0; have hcBKq1 : w3.cell? ⟨q, 1, none⟩ = some (.int .i64 0) := (blk_cell BKq.out 1).trans rfl; have hfcBKq1 := blk_frozen BKq.out 1; have hnq1 := NBKgq.out; have hnq2 := NBKgq.out.symm) | ((with_reducible refine gate_dst (N := 25) rfl ?_); refine Kd.R_lit k23 _ 23 ?hg (N := 25) ?hd (xs := ([(⟨d, f⟩ : S23), ⟨n0, n1⟩] : List S23)) (inner := [.int .i64 d, .int .i64 f, .int .i64 n0, .int .i64 n1]) (ok := fun _ => True) (okp := fun _ => True) ?hr ?hp (fun _ hk => hk) trivial (Below.refl _ _) (Nat.le_refl _) (by simp) ?_; (case hd => rfl); (case hg => rfl); (case hr => first | (go_simp; done) | (go_simp; rfl)); (case hp => exact (Reps.c2 (show Kd.M k23 _ _ _ (⟨d, f⟩ : S23) [.int .i64 d, .int .i64 f] from (k23_mkM _ _ _ (⟨d, f⟩ : S23))) (Reps.c2 (show Kd.M k23 _ _ _ (⟨n0, n1⟩ : S23) [.int .i64 n0, .int .i64 n1] from (k23_mkM _ _ _ (⟨n0, n1⟩ : S23))) (Reps.none _ _)))); intro v8 w8 ho hb hg_ hnew_; clear hg_ hnew_; obtain ⟨A8, c8, rfl, hc8, hC8⟩ := Kd.R_reads ho; clear hC8; have n0_ := Aside0.mk (below_step (below_set (below_set HB.out GEq.out) GEq.out) hb); have mBKn := Aside0.mk (blk_below (blk_far (blk_far BKn.out NBKnq.out _) NBKnq.out _) hb); have mBKd := Aside0.mk (blk_below (blk_far (blk_far BKd.out NBKdq.out _) NBKdq.out _) hb); have mBKm := Aside0.mk (blk_below (blk_far (blk_far BKm.out NBKmq.out _) NBKmq.out _) hb); have mBKf := Aside0.mk (blk_below (blk_far (blk_far BKf.out NBKfq.out _) NBKfq.out _) hb); have mBKo := Aside0.mk (blk_below (blk_far (blk_far BKo.out NBKoq.out _) NBKoq.out _) hb); have mO := Aside0.mk (Kd.R_mono (Kd.R_below (Kd.R_far (Kd.R_far HO.out (fun k hk => hk.2) _) (fun k hk => hk.2) _) hb) (fun _ _ => trivial)); have HT := Aside0.mk (Kd.R_lower ho (below_size (below_set (below_set HB.out GEq.out) GEq.out))); clear HB HO BKn BKd BKm BKf BKo; have HB := n0_; have HO := mO; have BKn := mBKn; have BKd := mBKd; have BKm := mBKm; have BKf := mBKf; have BKo := mBKo; clear n0_ mO mBKn mBKd mBKm mBKf mBKo; clear ho hb; have HC8 := Aside0.mk hc8; clear hc8; have heBKn0 : w8.cell? ⟨bn, 0, none⟩ = some (.int .i64 nm) := (blk_cell BKn.out 0).trans rfl; have heBKd0 : w8.cell? ⟨bd, 0, none⟩ = some (.int .i64 dn) := (blk_cell BKd.out 0).trans rfl; have heBKm0 : w8.cell? ⟨bm, 0, none⟩ = some (.int .i64 m) := (blk_cell BKm.out 0).trans rfl; have heBKf0 : w8.cell? ⟨bf, 0, none⟩ = some (.bool few) := (blk_cell BKf.out 0).trans rfl; have heBKo0 : w8.cell? ⟨bo, 0, none⟩ = some (.slice A out.length c) := (blk_cell BKo.out 0).trans rfl; have hfeBKo0 := blk_frozen BKo.out 0))
 have HS1 := HS.out
 clear HS
 unfold bsN at HS1
 cases ok with
 | false =>
  rw [if_neg (by decide)] at HS1
  obtain rfl := Option.some.inj HS1
  go_region
  all_goals (try go_wp2)
  all_goals go_end0
  all_goals exact ⟨rfl, ⟨(by (with_reducible repeat (first | refine blk_drewN ?_ _ | refine blk_drew ?_ | refine blk_alloc ?_ _)); exact BKn.out), (by (with_reducible repeat (first | refine blk_drewN ?_ _ | refine blk_drew ?_ | refine blk_alloc ?_ _)); exact BKd.out), (by (with_reducible repeat (first | refine blk_drewN ?_ _ | refine blk_drew ?_ | refine blk_alloc ?_ _)); exact BKm.out), (by (with_reducible repeat (first | refine blk_drewN ?_ _ | refine blk_drew ?_ | refine blk_alloc ?_ _)); exact BKf.out), ⟨_, (by (with_reducible repeat (first | refine blk_drewN ?_ _ | refine blk_drew ?_ | refine blk_alloc ?_ _)); exact BKo.out), (by (with_reducible repeat (first | apply Kd.R_alloc | apply Kd.R_drewN | apply Kd.R_drew)); exact HO.out)⟩, GE.out, (by repeat (first | (with_reducible first | exact HB.out | apply below_alloc | apply pw_below_drewN | apply below_drew1) | exact HB.out))⟩⟩
 | true =>
  rw [if_pos rfl] at HS1
  by_cases z : out.length = 0
  ·
   rw [if_pos z] at HS1
   obtain rfl := Option.some.inj HS1
   have zb : ((out.length : Int) == 0) = true := beq_iff_eq.2 (by omega)
   clear z
   go_region
   all_goals (try go_wp2)
   all_goals go_end0
   all_goals exact ⟨rfl, ⟨blk_far (by (with_reducible repeat (first | refine blk_drewN ?_ _ | refine blk_drew ?_ | refine blk_alloc ?_ _)); exact BKn.out) No.out.symm _, blk_far (by (with_reducible repeat (first | refine blk_drewN ?_ _ | refine blk_drew ?_ | refine blk_alloc ?_ _)); exact BKd.out) Nd.out.symm _, blk_far (by (with_reducible repeat (first | refine blk_drewN ?_ _ | refine blk_drew ?_ | refine blk_alloc ?_ _)); exact BKm.out) Nm.out.symm _, blk_far (by (with_reducible repeat (first | refine blk_drewN ?_ _ | refine blk_drew ?_ | refine blk_alloc ?_ _)); exact BKf.out) Nf.out.symm _, ⟨_, blk_put (by (with_reducible repeat (first | refine blk_drewN ?_ _ | refine blk_drew ?_ | refine blk_alloc ?_ _)); exact BKo.out) 0 _ rfl, Kd.R_set (by (with_reducible repeat (first | apply Kd.R_alloc | apply Kd.R_drewN | apply Kd.R_drew)); exact HT.out) (by (with_reducible repeat (first | refine blk_drewN ?_ _ | refine blk_drew ?_ | refine blk_alloc ?_ _)); exact BKo.out) (by decide) 0 _⟩, GE.out, (by repeat (first | (with_reducible first | exact HB.out | apply below_alloc | apply pw_below_drewN | apply below_drew1 | refine below_set ?_ GE.out) | exact HB.out))⟩⟩
  ·
   rw [if_neg z] at HS1
   have zb : ((out.length : Int) == 0) = false := beq_eq_false_iff_ne.2 (by omega)
   clear z
   cases few with
   | false =>
    rw [if_neg (by decide)] at HS1
    obtain rfl := Option.some.inj HS1
    go_region
    all_goals (try go_wp2)
    all_goals go_end0
    all_goals exact ⟨rfl, ⟨(by (with_reducible repeat (first | refine blk_drewN ?_ _ | refine blk_drew ?_ | refine blk_alloc ?_ _)); exact BKn.out), (by (with_reducible repeat (first | refine blk_drewN ?_ _ | refine blk_drew ?_ | refine blk_alloc ?_ _)); exact BKd.out), (by (with_reducible repeat (first | refine blk_drewN ?_ _ | refine blk_drew ?_ | refine blk_alloc ?_ _)); exact BKm.out), (by (with_reducible repeat (first | refine blk_drewN ?_ _ | refine blk_drew ?_ | refine blk_alloc ?_ _)); exact BKf.out), ⟨_, (by (with_reducible repeat (first | refine blk_drewN ?_ _ | refine blk_drew ?_ | refine blk_alloc ?_ _)); exact BKo.out), (by (with_reducible repeat (first | apply Kd.R_alloc | apply Kd.R_drewN | apply Kd.R_drew)); exact HO.out)⟩, GE.out, (by repeat (first | (with_reducible first | exact HB.out | apply below_alloc | apply pw_below_drewN | apply below_drew1) | exact HB.out))⟩⟩
   | true =>
    rw [if_pos rfl] at HS1
    obtain ⟨a, ha, HS1⟩ := Option.bind_eq_some_iff.mp HS1
    obtain ⟨b, hb, HS1⟩ := Option.bind_eq_some_iff.mp HS1
    have HA := Aside0.mk ha
    have HBB := Aside0.mk hb
    clear ha hb
    by_cases y : a < b
    ·
     rw [if_pos y] at HS1
     obtain rfl := Option.some.inj HS1
     have yb : decide (a < b) = true := decide_eq_true y
     clear y
     haveI ne_ : Nonempty (BtC W0 bn bd bm bo bf nm dn m true A c out A8 c8 [(⟨d, f⟩ : S23), ⟨n0, n1⟩]) := ⟨⟨w8, BKn.out, BKd.out, BKm.out, BKf.out, BKo.out, HO.out, HT.out, HB.out⟩⟩
     have cO := fun p : BtC W0 bn bd bm bo bf nm dn m true A c out A8 c8 [(⟨d, f⟩ : S23), ⟨n0, n1⟩] => p.cellO
     have cF := fun p : BtC W0 bn bd bm bo bf nm dn m true A c out A8 c8 [(⟨d, f⟩ : S23), ⟨n0, n1⟩] => p.cellF
     have tT : Aside0 (∀ p : BtC W0 bn bd bm bo bf nm dn m true A c out A8 c8 [(⟨d, f⟩ : S23), ⟨n0, n1⟩], Calls Try.prog 47 #[.slice A8 2 c8] p.w fun e w' => e = .returned (.int .i64 a) ∧ ∃ q : BtC W0 bn bd bm bo bf nm dn m true A c out A8 c8 [(⟨d, f⟩ : S23), ⟨n0, n1⟩], w' = q.w) := ⟨fun p => p.teethT k HA.out⟩
     have tO : Aside0 (∀ p : BtC W0 bn bd bm bo bf nm dn m true A c out A8 c8 [(⟨d, f⟩ : S23), ⟨n0, n1⟩], Calls Try.prog 47 #[.slice A out.length c] p.w fun e w' => e = .returned (.int .i64 b) ∧ ∃ q : BtC W0 bn bd bm bo bf nm dn m true A c out A8 c8 [(⟨d, f⟩ : S23), ⟨n0, n1⟩], w' = q.w) := ⟨fun p => p.teethO k HBB.out⟩
     refine region_quiet_in (fun w' => ∃ p : BtC W0 bn bd bm bo bf nm dn m true A c out A8 c8 [(⟨d, f⟩ : S23), ⟨n0, n1⟩], w' = p.w) (by kernel_rfl) (by kernel_rfl) ⟨BtC.step (⟨w8, BKn.out, BKd.out, BKm.out, BKf.out, BKo.out, HO.out, HT.out, HB.out⟩ : BtC W0 bn bd bm bo bf nm dn m true A c out A8 c8 [(⟨d, f⟩ : S23), ⟨n0, n1⟩]) (below_drew (Below.refl _ _)), rfl⟩ ?_
     repeat (go_big_quiet_step (first | (with_reducible exact tT.out _) | (with_reducible exact tO.out _)))
     refine wpQuiet_nil ?_
     intro _ hw'
     obtain ⟨p, rfl⟩ := hw'
     have fO := blk_frozen p.ho 0
     have cO' := p.cellO
     go_wp2
     go_end0
     exact ⟨rfl, p.store GE.out _ rfl⟩
    ·
     rw [if_neg y] at HS1
     obtain rfl := Option.some.inj HS1
     have yb : decide (a < b) = false := decide_eq_false y
     clear y
     haveI ne_ : Nonempty (BtC W0 bn bd bm bo bf nm dn m true A c out A8 c8 [(⟨d, f⟩ : S23), ⟨n0, n1⟩]) := ⟨⟨w8, BKn.out, BKd.out, BKm.out, BKf.out, BKo.out, HO.out, HT.out, HB.out⟩⟩
     have cO := fun p : BtC W0 bn bd bm bo bf nm dn m true A c out A8 c8 [(⟨d, f⟩ : S23), ⟨n0, n1⟩] => p.cellO
     have cF := fun p : BtC W0 bn bd bm bo bf nm dn m true A c out A8 c8 [(⟨d, f⟩ : S23), ⟨n0, n1⟩] => p.cellF
     have tT : Aside0 (∀ p : BtC W0 bn bd bm bo bf nm dn m true A c out A8 c8 [(⟨d, f⟩ : S23), ⟨n0, n1⟩], Calls Try.prog 47 #[.slice A8 2 c8] p.w fun e w' => e = .returned (.int .i64 a) ∧ ∃ q : BtC W0 bn bd bm bo bf nm dn m true A c out A8 c8 [(⟨d, f⟩ : S23), ⟨n0, n1⟩], w' = q.w) := ⟨fun p => p.teethT k HA.out⟩
     have tO : Aside0 (∀ p : BtC W0 bn bd bm bo bf nm dn m true A c out A8 c8 [(⟨d, f⟩ : S23), ⟨n0, n1⟩], Calls Try.prog 47 #[.slice A out.length c] p.w fun e w' => e = .returned (.int .i64 b) ∧ ∃ q : BtC W0 bn bd bm bo bf nm dn m true A c out A8 c8 [(⟨d, f⟩ : S23), ⟨n0, n1⟩], w' = q.w) := ⟨fun p => p.teethO k HBB.out⟩
     refine region_quiet_in (fun w' => ∃ p : BtC W0 bn bd bm bo bf nm dn m true A c out A8 c8 [(⟨d, f⟩ : S23), ⟨n0, n1⟩], w' = p.w) (by kernel_rfl) (by kernel_rfl) ⟨BtC.step (⟨w8, BKn.out, BKd.out, BKm.out, BKf.out, BKo.out, HO.out, HT.out, HB.out⟩ : BtC W0 bn bd bm bo bf nm dn m true A c out A8 c8 [(⟨d, f⟩ : S23), ⟨n0, n1⟩]) (below_drew (Below.refl _ _)), rfl⟩ ?_
     repeat (go_big_quiet_step (first | (with_reducible exact tT.out _) | (with_reducible exact tO.out _)))
     refine wpQuiet_nil ?_
     intro _ hw'
     obtain ⟨p, rfl⟩ := hw'
     have fO := blk_frozen p.ho 0
     have cO' := p.cellO
     go_wp2
     go_end0
     exact ⟨rfl, p.skip GE.out⟩


def bsF (k : Nat) (few : Bool) (nm dn m : Int) : Nat → Int → Int → List S23 → Option (List S23)
 | 0, _, _, _ => none
 | g + 1, d, f, out => if d ≤ m then (if f ≤ m then (impl_firstPair.f k (wrap64 (nm * f)) (wrap64 (dn * d)) m).bind fun t => (bsN k few [⟨d, f⟩, ⟨t.1, t.2.1⟩] t.2.2 out).bind fun o => bsF k few nm dn m g d (f + 1) o else bsF k few nm dn m g (d + 1) 6 out) else some out
def btF (k : Nat) (a0 a1 a2 : Int) (a3 : Bool) : Option (List S23 × Bool) :=
 (impl_areRatio.f a0 a1 a2).bind fun t => if t = true then (bsF k a3 a0 a1 a2 k 6 6 []).bind fun o => some (o, decide (0 < o.length)) else some ([], false)
theorem bt_range {a0 a1 a2 : Int} (h : impl_areRatio.f a0 a1 a2 = some true) : 6 ≤ a2 ∧ a2 ≤ 120 := by
 unfold impl_areRatio.f impl_areTeeth.f impl_within.f at h
 by_cases h1 : a0 ≥ 1 <;> by_cases h2 : a1 ≥ 1 <;> by_cases h3 : a0 ≤ 1000 <;> by_cases h4 : a1 ≤ 1000 <;> by_cases h5 : a2 ≥ 6 <;> by_cases h6 : a2 ≤ 120 <;> simp_all
theorem best_each (k : Nat) (W0 : World) (nm dn m : Int) (few : Bool) (bn bd bm bo bf : Nat) (r : List S23) (hm : 5 ≤ m) (hm' : m ≤ 1000) (w : World) (h : BtI W0 bn bd bm bo bf nm dn m few [] w) (hr : bsF k few nm dn m k 6 6 [] = some r) :
  Calls Try.prog 37 #[.int .i64 m, .func (.func 58) #[] #[.pointer (some ⟨bn, 0, none⟩), .pointer (some ⟨bd, 0, none⟩), .pointer (some ⟨bm, 0, none⟩), .pointer (some ⟨bo, 0, none⟩), .pointer (some ⟨bf, 0, none⟩)]] w fun e w' => e = .returned (.tuple #[]) ∧ BtI W0 bn bd bm bo bf nm dn m few r w' := by
 refine (each_best _ _ _ _ _ m hm hm' (fun d f w => ∃ g out, bsF k few nm dn m g d f out = some r ∧ BtI W0 bn bd bm bo bf nm dn m few out w) ?_ ?_ w ⟨k, [], hr, h⟩).mono ?_
 ·
  rintro d f w h1 h2 h3 h4 ⟨g, out, hg, hI⟩
  cases g with
  | zero => simp [bsF] at hg
  | succ g =>
   simp only [bsF, if_pos h2, if_pos h4] at hg
   obtain ⟨⟨n0, n1, ok⟩, hp, hg⟩ := Option.bind_eq_some_iff.mp hg
   obtain ⟨o, ho, hg⟩ := Option.bind_eq_some_iff.mp hg
   exact (best_visit k W0 d f nm dn m n0 n1 ok few bn bd bm bo bf out o w hI hp ho).mono fun e w' ⟨he, hi⟩ => ⟨he, g, o, hg, hi⟩
 ·
  rintro d w ⟨g, out, hg, hI⟩
  cases g with
  | zero => simp [bsF] at hg
  | succ g =>
   simp only [bsF] at hg
   by_cases h2 : d ≤ m
   ·
    rw [if_pos h2, if_neg (by omega)] at hg
    exact ⟨g, out, hg, hI⟩
   ·
    rw [if_neg h2] at hg
    refine ⟨g + 1, out, ?_, hI⟩
    simp only [bsF]
    rw [if_neg (by omega)]
    exact hg
 ·
  rintro e w' ⟨he, g, out, hg, hI⟩
  cases g with
  | zero => simp [bsF] at hg
  | succ g =>
   simp only [bsF] at hg
   rw [if_neg (by omega)] at hg
   obtain rfl := Option.some.inj hg
   exact ⟨he, hI⟩
set_option maxHeartbeats 8000000 in
set_option maxRecDepth 100000 in
theorem bestTrain_walk (k : Nat) (a0 : Int) (a1 : Int) (a2 : Int) (a3 : Bool) (r1 : List (S23)) (r2 : Bool) (w : World) (h : btF k a0 a1 a2 a3 = some (r1, r2)) :
  Calls Try.prog 49 #[.int .i64 a0, .int .i64 a1, .int .i64 a2, .bool a3] w fun e w' => ∃ v0_ : Value, e = .returned (.tuple #[v0_, .bool r2]) ∧ Kd.R k23 23 w' w.heap.size (fun _ => True) v0_ r1 ∧ Below w.heap.size w w' := by
 have hu23 := Try.underlying23
 have hmf : ∀ (fn : Fn) (first cap : Array Value) (w : World), (Instr.makeFunc fn first cap).run Try.prog w = .ok (.func fn first cap) w := fun _ _ _ _ => rfl
 have HB := Aside0.mk (Below.refl w.heap.size w)
 unfold btF at h
 obtain ⟨t, ht, h⟩ := Option.bind_eq_some_iff.mp h
 have HA := Aside0.mk ht
 cases t with
 | false =>
  rw [if_neg (by decide)] at h
  clear ht
  simp only [Option.some.injEq, Prod.mk.injEq] at h
  obtain ⟨rfl, rfl⟩ := h
  go_enter Try.func49, Try.ntmps49
  go_wp2_with (first | ((with_reducible refine gate_dst (N := 4) rfl ?_); refine box_event ?hg (N := 4) ?hd (cs := #[.int .i64 a0]) (t := 3) ?hr ?_; (case hd => rfl); (case hg => rfl); (case hr => first | (go_simp; done) | (go_simp; rfl)); intro bn hg w1 hbox hb; have BKbn := Aside0.mk hbox; have n0_ := Aside0.mk (below_step (by repeat (first | (with_reducible first | exact HB.out | apply below_alloc | apply pw_below_drewN | apply below_drew1) | exact HB.out)) hb); clear HB ; have HB := n0_; clear n0_; clear hb hbox hg; ) | ((with_reducible refine gate_dst (N := 5) rfl ?_); refine box_event ?hg (N := 5) ?hd (cs := #[.int .i64 a1]) (t := 3) ?hr ?_; (case hd => rfl); (case hg => rfl); (case hr => first | (go_simp; done) | (go_simp; rfl)); intro bd hg w2 hbox hb; have BKbd := Aside0.mk hbox; have n0_ := Aside0.mk (below_step (by repeat (first | (with_reducible first | exact HB.out | apply below_alloc | apply pw_below_drewN | apply below_drew1) | exact HB.out)) hb); have n1_ := Aside0.mk (blk_below (by (with_reducible repeat (first | refine blk_drewN ?_ _ | refine blk_drew ?_ | refine blk_alloc ?_ _)); exact BKbn.out) hb); clear HB BKbn; have HB := n0_; have BKbn := n1_; clear n0_ n1_; clear hb hbox hg; ) | ((with_reducible refine gate_dst (N := 6) rfl ?_); refine box_event ?hg (N := 6) ?hd (cs := #[.int .i64 a2]) (t := 3) ?hr ?_; (case hd => rfl); (case hg => rfl); (case hr => first | (go_simp; done) | (go_simp; rfl)); intro bm hg w3 hbox hb; have BKbm := Aside0.mk hbox; have n0_ := Aside0.mk (below_step (by repeat (first | (with_reducible first | exact HB.out | apply below_alloc | apply pw_below_drewN | apply below_drew1) | exact HB.out)) hb); have n1_ := Aside0.mk (blk_below (by (with_reducible repeat (first | refine blk_drewN ?_ _ | refine blk_drew ?_ | refine blk_alloc ?_ _)); exact BKbn.out) hb); have n2_ := Aside0.mk (blk_below (by (with_reducible repeat (first | refine blk_drewN ?_ _ | refine blk_drew ?_ | refine blk_alloc ?_ _)); exact BKbd.out) hb); clear HB BKbn BKbd; have HB := n0_; have BKbn := n1_; have BKbd := n2_; clear n0_ n1_ n2_; clear hb hbox hg; ) | ((with_reducible refine gate_dst (N := 7) rfl ?_); refine box_event ?hg (N := 7) ?hd (cs := #[.bool a3]) (t := 4) ?hr ?_; (case hd => rfl); (case hg => rfl); (case hr => first | (go_simp; done) | (go_simp; rfl)); intro bf hg w4 hbox hb; have BKbf := Aside0.mk hbox; have n0_ := Aside0.mk (below_step (by repeat (first | (with_reducible first | exact HB.out | apply below_alloc | apply pw_below_drewN | apply below_drew1) | exact HB.out)) hb); have n1_ := Aside0.mk (blk_below (by (with_reducible repeat (first | refine blk_drewN ?_ _ | refine blk_drew ?_ | refine blk_alloc ?_ _)); exact BKbn.out) hb); have n2_ := Aside0.mk (blk_below (by (with_reducible repeat (first | refine blk_drewN ?_ _ | refine blk_drew ?_ | refine blk_alloc ?_ _)); exact BKbd.out) hb); have n3_ := Aside0.mk (blk_below (by (with_reducible repeat (first | refine blk_drewN ?_ _ | refine blk_drew ?_ | refine blk_alloc ?_ _)); exact BKbm.out) hb); clear HB BKbn BKbd BKbm; have HB := n0_; have BKbn := n1_; have BKbd := n2_; have BKbm := n3_; clear n0_ n1_ n2_ n3_; clear hb hbox hg; have hdBKbn0 : w4.cell? ⟨bn, 0, none⟩ = some (.int .i64 a0) := (blk_cell BKbn.out 0).trans rfl; have hdBKbd0 : w4.cell? ⟨bd, 0, none⟩ = some (.int .i64 a1) := (blk_cell BKbd.out 0).trans rfl; have hdBKbm0 : w4.cell? ⟨bm, 0, none⟩ = some (.int .i64 a2) := (blk_cell BKbm.out 0).trans rfl; have hdBKbf0 : w4.cell? ⟨bf, 0, none⟩ = some (.bool a3) := (blk_cell BKbf.out 0).trans rfl) | (go_at_call 35; (refine (impl_areRatio.calls a0 a1 a2 _ _ HA.out).mono ?_); rintro e w' ⟨rfl, ⟨nd, rfl⟩⟩))
  go_ret2
  exact ⟨_, rfl, Kd.R_nil _ _ _ _ _, (by repeat (first | (with_reducible first | exact HB.out | apply below_alloc | apply pw_below_drewN | apply below_drew1) | exact HB.out))⟩
 | true =>
  rw [if_pos rfl] at h
  obtain ⟨o, ho, h⟩ := Option.bind_eq_some_iff.mp h
  simp only [Option.some.injEq, Prod.mk.injEq] at h
  obtain ⟨rfl, rfl⟩ := h
  have HR := Aside0.mk ho
  have HG := Aside0.mk (bt_range ht)
  clear ht ho
  go_enter Try.func49, Try.ntmps49
  go_wp2_with (first | ((with_reducible refine gate_dst (N := 4) rfl ?_); refine box_event ?hg (N := 4) ?hd (cs := #[.int .i64 a0]) (t := 3) ?hr ?_; (case hd => rfl); (case hg => rfl); (case hr => first | (go_simp; done) | (go_simp; rfl)); intro bn hg w1 hbox hb; have BKbn := Aside0.mk hbox; have n0_ := Aside0.mk (below_step (by repeat (first | (with_reducible first | exact HB.out | apply below_alloc | apply pw_below_drewN | apply below_drew1) | exact HB.out)) hb); clear HB ; have HB := n0_; clear n0_; clear hb hbox hg; ) | ((with_reducible refine gate_dst (N := 5) rfl ?_); refine box_event ?hg (N := 5) ?hd (cs := #[.int .i64 a1]) (t := 3) ?hr ?_; (case hd => rfl); (case hg => rfl); (case hr => first | (go_simp; done) | (go_simp; rfl)); intro bd hg w2 hbox hb; have BKbd := Aside0.mk hbox; have n0_ := Aside0.mk (below_step (by repeat (first | (with_reducible first | exact HB.out | apply below_alloc | apply pw_below_drewN | apply below_drew1) | exact HB.out)) hb); have n1_ := Aside0.mk (blk_below (by (with_reducible repeat (first | refine blk_drewN ?_ _ | refine blk_drew ?_ | refine blk_alloc ?_ _)); exact BKbn.out) hb); clear HB BKbn; have HB := n0_; have BKbn := n1_; clear n0_ n1_; clear hb hbox hg; ) | ((with_reducible refine gate_dst (N := 6) rfl ?_); refine box_event ?hg (N := 6) ?hd (cs := #[.int .i64 a2]) (t := 3) ?hr ?_; (case hd => rfl); (case hg => rfl); (case hr => first | (go_simp; done) | (go_simp; rfl)); intro bm hg w3 hbox hb; have BKbm := Aside0.mk hbox; have n0_ := Aside0.mk (below_step (by repeat (first | (with_reducible first | exact HB.out | apply below_alloc | apply pw_below_drewN | apply below_drew1) | exact HB.out)) hb); have n1_ := Aside0.mk (blk_below (by (with_reducible repeat (first | refine blk_drewN ?_ _ | refine blk_drew ?_ | refine blk_alloc ?_ _)); exact BKbn.out) hb); have n2_ := Aside0.mk (blk_below (by (with_reducible repeat (first | refine blk_drewN ?_ _ | refine blk_drew ?_ | refine blk_alloc ?_ _)); exact BKbd.out) hb); clear HB BKbn BKbd; have HB := n0_; have BKbn := n1_; have BKbd := n2_; clear n0_ n1_ n2_; clear hb hbox hg; ) | ((with_reducible refine gate_dst (N := 7) rfl ?_); refine box_event ?hg (N := 7) ?hd (cs := #[.bool a3]) (t := 4) ?hr ?_; (case hd => rfl); (case hg => rfl); (case hr => first | (go_simp; done) | (go_simp; rfl)); intro bf hg w4 hbox hb; have BKbf := Aside0.mk hbox; have n0_ := Aside0.mk (below_step (by repeat (first | (with_reducible first | exact HB.out | apply below_alloc | apply pw_below_drewN | apply below_drew1) | exact HB.out)) hb); have n1_ := Aside0.mk (blk_below (by (with_reducible repeat (first | refine blk_drewN ?_ _ | refine blk_drew ?_ | refine blk_alloc ?_ _)); exact BKbn.out) hb); have n2_ := Aside0.mk (blk_below (by (with_reducible repeat (first | refine blk_drewN ?_ _ | refine blk_drew ?_ | refine blk_alloc ?_ _)); exact BKbd.out) hb); have n3_ := Aside0.mk (blk_below (by (with_reducible repeat (first | refine blk_drewN ?_ _ | refine blk_drew ?_ | refine blk_alloc ?_ _)); exact BKbm.out) hb); clear HB BKbn BKbd BKbm; have HB := n0_; have BKbn := n1_; have BKbd := n2_; have BKbm := n3_; clear n0_ n1_ n2_ n3_; clear hb hbox hg; have hdBKbn0 : w4.cell? ⟨bn, 0, none⟩ = some (.int .i64 a0) := (blk_cell BKbn.out 0).trans rfl; have hdBKbd0 : w4.cell? ⟨bd, 0, none⟩ = some (.int .i64 a1) := (blk_cell BKbd.out 0).trans rfl; have hdBKbm0 : w4.cell? ⟨bm, 0, none⟩ = some (.int .i64 a2) := (blk_cell BKbm.out 0).trans rfl; have hdBKbf0 : w4.cell? ⟨bf, 0, none⟩ = some (.bool a3) := (blk_cell BKbf.out 0).trans rfl) | (go_at_call 35; (refine (impl_areRatio.calls a0 a1 a2 _ _ HA.out).mono ?_); rintro e w' ⟨rfl, ⟨nd, rfl⟩⟩) | (go_at_call 37; (refine (best_each k w a0 a1 a2 a3 bn bd bm bo bf o (by have := HG.out; omega) (by have := HG.out; omega) _ ⟨blk_far (by (with_reducible repeat (first | refine blk_drewN ?_ _ | refine blk_drew ?_ | refine blk_alloc ?_ _)); exact BKbn.out) (blk_ne (by (with_reducible repeat (first | refine blk_drewN ?_ _ | refine blk_drew ?_ | refine blk_alloc ?_ _)); exact BKbn.out) (by (with_reducible repeat (first | refine blk_drewN ?_ _ | refine blk_drew ?_ | refine blk_alloc ?_ _)); exact BKbo.out) (by decide)) _, blk_far (by (with_reducible repeat (first | refine blk_drewN ?_ _ | refine blk_drew ?_ | refine blk_alloc ?_ _)); exact BKbd.out) (blk_ne (by (with_reducible repeat (first | refine blk_drewN ?_ _ | refine blk_drew ?_ | refine blk_alloc ?_ _)); exact BKbd.out) (by (with_reducible repeat (first | refine blk_drewN ?_ _ | refine blk_drew ?_ | refine blk_alloc ?_ _)); exact BKbo.out) (by decide)) _, blk_far (by (with_reducible repeat (first | refine blk_drewN ?_ _ | refine blk_drew ?_ | refine blk_alloc ?_ _)); exact BKbm.out) (blk_ne (by (with_reducible repeat (first | refine blk_drewN ?_ _ | refine blk_drew ?_ | refine blk_alloc ?_ _)); exact BKbm.out) (by (with_reducible repeat (first | refine blk_drewN ?_ _ | refine blk_drew ?_ | refine blk_alloc ?_ _)); exact BKbo.out) (by decide)) _, blk_far (by (with_reducible repeat (first | refine blk_drewN ?_ _ | refine blk_drew ?_ | refine blk_alloc ?_ _)); exact BKbf.out) (blk_ne (by (with_reducible repeat (first | refine blk_drewN ?_ _ | refine blk_drew ?_ | refine blk_alloc ?_ _)); exact BKbf.out) (by (with_reducible repeat (first | refine blk_drewN ?_ _ | refine blk_drew ?_ | refine blk_alloc ?_ _)); exact BKbo.out) (by decide)) _, ⟨_, blk_put (by (with_reducible repeat (first | refine blk_drewN ?_ _ | refine blk_drew ?_ | refine blk_alloc ?_ _)); exact BKbo.out) 0 _ rfl, Kd.R_set (by (with_reducible repeat (first | apply Kd.R_alloc | apply Kd.R_drewN | apply Kd.R_drew)); exact HO.out) (by (with_reducible repeat (first | refine blk_drewN ?_ _ | refine blk_drew ?_ | refine blk_alloc ?_ _)); exact BKbo.out) (by decide) 0 _⟩, GE.out, (by repeat (first | (with_reducible first | exact HB.out | apply below_alloc | apply pw_below_drewN | apply below_drew1 | refine below_set ?_ GE.out) | exact HB.out))⟩ HR.out).mono ?_); rintro e w10 ⟨rfl, hI⟩; obtain ⟨h1, h2, h3, h4, ⟨v, ho, hR⟩, hge, hB⟩ := hI; obtain ⟨A, c, rfl, hc, hC⟩ := Kd.R_reads hR; clear h1 h2 h3 h4 hge hc hC; have hco : w10.cell? ⟨bo, 0, none⟩ = some (.slice A o.length c) := (blk_cell ho 0).trans rfl; have HRR := Aside0.mk hR; have HBB := Aside0.mk hB; clear ho hR hB) | ((with_reducible refine gate_dst (N := 16) rfl ?_); refine Kd.R_lit k23 _ 23 ?hg (N := 16) ?hd (xs := ([] : List S23)) (inner := []) (ok := fun _ => True) (okp := fun _ => True) ?hr ?hp (fun _ hk => hk) trivial (Below.refl _ _) (Nat.le_refl _) (by simp) ?_; (case hd => rfl); (case hg => rfl); (case hr => first | (go_simp; done) | (go_simp; rfl)); (case hp => exact (Reps.none _ _)); intro v8 w8 ho hb hg_ hnew_; clear hg_ hnew_; obtain ⟨A8, c8, rfl, hc8, hC8⟩ := Kd.R_reads ho; clear hc8 hC8; have HO := Aside0.mk (Kd.R_lower ho (below_size (by repeat (first | (with_reducible first | exact HB.out | apply below_alloc | apply pw_below_drewN | apply below_drew1) | exact HB.out)))); have n0_ := Aside0.mk (below_step (by repeat (first | (with_reducible first | exact HB.out | apply below_alloc | apply pw_below_drewN | apply below_drew1) | exact HB.out)) hb); have n1_ := Aside0.mk (blk_below (by (with_reducible repeat (first | refine blk_drewN ?_ _ | refine blk_drew ?_ | refine blk_alloc ?_ _)); exact BKbn.out) hb); have n2_ := Aside0.mk (blk_below (by (with_reducible repeat (first | refine blk_drewN ?_ _ | refine blk_drew ?_ | refine blk_alloc ?_ _)); exact BKbd.out) hb); have n3_ := Aside0.mk (blk_below (by (with_reducible repeat (first | refine blk_drewN ?_ _ | refine blk_drew ?_ | refine blk_alloc ?_ _)); exact BKbm.out) hb); have n4_ := Aside0.mk (blk_below (by (with_reducible repeat (first | refine blk_drewN ?_ _ | refine blk_drew ?_ | refine blk_alloc ?_ _)); exact BKbf.out) hb); clear HB BKbn BKbd BKbm BKbf; have HB := n0_; have BKbn := n1_; have BKbd := n2_; have BKbm := n3_; have BKbf := n4_; clear n0_ n1_ n2_ n3_ n4_; clear hb ho; have hfBKbn0 : w8.cell? ⟨bn, 0, none⟩ = some (.int .i64 a0) := (blk_cell BKbn.out 0).trans rfl; have hfBKbd0 : w8.cell? ⟨bd, 0, none⟩ = some (.int .i64 a1) := (blk_cell BKbd.out 0).trans rfl; have hfBKbm0 : w8.cell? ⟨bm, 0, none⟩ = some (.int .i64 a2) := (blk_cell BKbm.out 0).trans rfl; have hfBKbf0 : w8.cell? ⟨bf, 0, none⟩ = some (.bool a3) := (blk_cell BKbf.out 0).trans rfl) | ((with_reducible refine gate_dst (N := 10) rfl ?_); refine box_event ?hg (N := 10) ?hd (cs := #[.slice none 0 0]) (t := 28) ?hr ?_; (case hd => rfl); (case hg => rfl); (case hr => first | (go_simp; done) | (go_simp; rfl)); intro bo hg w9 hbox hb; have BKbo := Aside0.mk hbox; have GE := Aside0.mk (by rw [hg]; exact (below_size (by repeat (first | (with_reducible first | exact HB.out | apply below_alloc | apply pw_below_drewN | apply below_drew1) | exact HB.out))) : w.heap.size ≤ bo); have n0_ := Aside0.mk (below_step (by repeat (first | (with_reducible first | exact HB.out | apply below_alloc | apply pw_below_drewN | apply below_drew1) | exact HB.out)) hb); have n1_ := Aside0.mk (blk_below (by (with_reducible repeat (first | refine blk_drewN ?_ _ | refine blk_drew ?_ | refine blk_alloc ?_ _)); exact BKbn.out) hb); have n2_ := Aside0.mk (blk_below (by (with_reducible repeat (first | refine blk_drewN ?_ _ | refine blk_drew ?_ | refine blk_alloc ?_ _)); exact BKbd.out) hb); have n3_ := Aside0.mk (blk_below (by (with_reducible repeat (first | refine blk_drewN ?_ _ | refine blk_drew ?_ | refine blk_alloc ?_ _)); exact BKbm.out) hb); have n4_ := Aside0.mk (blk_below (by (with_reducible repeat (first | refine blk_drewN ?_ _ | refine blk_drew ?_ | refine blk_alloc ?_ _)); exact BKbf.out) hb); have n5_ := Aside0.mk (Kd.R_below (by (with_reducible repeat (first | apply Kd.R_alloc | apply Kd.R_drewN | apply Kd.R_drew)); exact HO.out) hb); clear HB BKbn BKbd BKbm BKbf HO; have HB := n0_; have BKbn := n1_; have BKbd := n2_; have BKbm := n3_; have BKbf := n4_; have HO := n5_; clear n0_ n1_ n2_ n3_ n4_ n5_; clear hb hbox hg; have hgBKbn0 : w9.cell? ⟨bn, 0, none⟩ = some (.int .i64 a0) := (blk_cell BKbn.out 0).trans rfl; have hgBKbd0 : w9.cell? ⟨bd, 0, none⟩ = some (.int .i64 a1) := (blk_cell BKbd.out 0).trans rfl; have hgBKbm0 : w9.cell? ⟨bm, 0, none⟩ = some (.int .i64 a2) := (blk_cell BKbm.out 0).trans rfl; have hgBKbf0 : w9.cell? ⟨bf, 0, none⟩ = some (.bool a3) := (blk_cell BKbf.out 0).trans rfl; have hgBKbo0 : w9.cell? ⟨bo, 0, none⟩ = some (.slice none 0 0) := (blk_cell BKbo.out 0).trans rfl; have hfgBKbo0 := blk_frozen BKbo.out 0; have hnm1 := blk_ne BKbm.out BKbo.out (by decide); have hnm2 := hnm1.symm))
  all_goals (try go_region)
  all_goals (try go_wp2)
  all_goals go_ret2
  all_goals exact ⟨_, rfl, (by (with_reducible repeat (first | apply Kd.R_alloc | apply Kd.R_drewN | apply Kd.R_drew)); exact HRR.out), (by repeat (first | (with_reducible first | exact HBB.out | apply below_alloc | apply pw_below_drewN | apply below_drew1) | exact HBB.out))⟩

def impl_bestTrain.f (k : Nat) (a0 : Int) (a1 : Int) (a2 : Int) (a3 : Bool) : Option (List S23 × Bool) := btF k a0 a1 a2 a3
theorem impl_bestTrain.calls (k : Nat) (a0 : Int) (a1 : Int) (a2 : Int) (a3 : Bool) (r1 : List (S23)) (r2 : Bool) (w : World) (h : impl_bestTrain.f k a0 a1 a2 a3 = some (r1, r2)) :
  Calls Try.prog 49 #[.int .i64 a0, .int .i64 a1, .int .i64 a2, .bool a3] w fun e w' => ∃ v0_ : Value, e = .returned (.tuple #[v0_, .bool r2]) ∧ Kd.R k23 23 w' w.heap.size (fun _ => True) v0_ r1 ∧ Below w.heap.size w w' := bestTrain_walk k a0 a1 a2 a3 r1 r2 w h

/-! ### impl_FirstMotionWork: function 13 -/
/-- A row of rows: element i's row, as one of the call's own. -/
theorem S_elem_row {A : Option Addr} {n c base : Nat} {W : World} {ok : Nat → Prop} {xs : List (List S23)} (h : Kd.S (Kd.slice 23 k23) 28 W base ok (.slice A n c) xs) (i : Int) (h0 : 0 ≤ i) (h1 : i < (xs.length : Int)) :
  ∃ (ad : Addr) (A1 : Option Addr) (c1 : Nat), A = some ad ∧ n = xs.length ∧ W.cell? (ad.add i.toNat) = some (.slice A1 (rd_L2 xs i).length c1) ∧ Kd.R k23 23 W base (fun _ => True) (.slice A1 (rd_L2 xs i).length c1) (rd_L2 xs i) := by
 have hn : 0 < xs.length := by omega
 have hlen := (Kd.S_reads' h).1
 obtain ⟨g, cap, e0, _⟩ := Kd.S_form h hn
 injection e0 with e1 e2 e3
 subst e1 e2 e3
 obtain ⟨oki, c2, hcl, hM, hcell, hoki, hH⟩ := Kd.S_lend h ([] : List S23) i h0 h1
 obtain ⟨v, rfl, hR⟩ := hM
 have hR0 : Kd.R k23 23 W base oki v (rd_L2 xs i) := hR
 obtain ⟨A1, cc, hv, hcc, _⟩ := Kd.R_reads hR0
 have hcl0 := hcell 0 v rfl
 subst hv
 refine ⟨⟨g, 0, none⟩, A1, cc, rfl, rfl, ?_, Kd.R_mono hR0 (fun _ _ => trivial)⟩
 have e1 : (⟨g, 0, none⟩ : Addr).add i.toNat = ⟨g, i.toNat * 1 + 0, none⟩ := by rw [add_plain]; simp
 rw [e1]
 exact hcl0
def fmB (k : Nat) (row out : List S23) : Option (List S23) := if out.length = 0 then some row else (impl_teeth.f k row).bind fun a => (impl_teeth.f k out).bind fun b => if a < b then some row else some out
def fmF (k : Nat) (rows : List (List S23)) : Nat → Int → List S23 → Option (List S23)
 | 0, _, _ => none
 | g + 1, i, out => if i < (rows.length : Int) then (fmB k (rd_L2 rows i) out).bind fun o => fmF k rows g (i + 1) o else some out
def impl_FirstMotionWork.f (k : Nat) (a0 a1 : Int) : Option (List S23 × Bool) := (impl_isDial.f a0).bind fun t => (impl_areTeeth.f a1).bind fun u => if t = true ∧ u = true then (impl_works.f k a0 a1).bind fun rows => (if rows.length ≤ 1000000000 then fmF k rows k 0 [] else none).bind fun o => some (o, decide (0 < o.length)) else some ([], false)
theorem R_C {α : Type} {d : Kd α} {e n c base : Nat} {ok : Nat → Prop} {w : World} {A : Option Addr} {xs : List α} (h : Kd.R d e w base ok (.slice A n c) xs) : d.C w A xs.length xs := (Kd.R_reads' h).2.2
set_option maxHeartbeats 8000000 in
set_option maxRecDepth 100000 in
theorem impl_FirstMotionWork.yes (k : Nat) (a0 a1 : Int) (rows : List (List S23)) (o : List S23) (w : World) (ht : impl_isDial.f a0 = some true) (hu : impl_areTeeth.f a1 = some true) (hw : impl_works.f k a0 a1 = some rows) (hl : rows.length ≤ 1000000000) (ho : fmF k rows k 0 [] = some o) :
  Calls Try.prog 13 #[.int .i64 a0, .int .i64 a1] w fun e w' => ∃ v0_ : Value, e = .returned (.tuple #[v0_, .bool (decide (0 < o.length))]) ∧ Kd.R k23 23 w' w.heap.size (fun _ => True) v0_ o ∧ Below w.heap.size w w' := by
 have HB := Aside0.mk (Below.refl w.heap.size w)
 have HT := Aside0.mk ht
 have HU := Aside0.mk hu
 have HW := Aside0.mk hw
 have HF := Aside0.mk ho
 have HRL := Aside0.mk hl
 clear ht hu hw ho hl
 go_enter Try.func13, Try.ntmps13
 go_wp2_with (first | ((with_reducible refine gate_dst (N := 17) rfl ?_); (refine Kd.R_lit k23 _ 23 ?hg (N := 17) ?hd (xs := ([] : List S23)) (inner := []) (ok := fun _ => True) (okp := fun _ => True) ?hr ?hp (fun _ hk => hk) trivial (Below.refl _ _) (Nat.le_refl _) (by simp) ?_; (case hd => rfl); (case hg => rfl); (case hr => first | (go_simp; done) | (go_simp; rfl)); (case hp => exact (Reps.none _ _)); intro v8 w8 ho hb hg_ hnew_; clear hg_ hnew_; obtain ⟨A8, c8, rfl, hc8, hC8⟩ := Kd.R_reads ho; clear hc8 hC8; have HO := Aside0.mk (Kd.R_lower ho (below_size (by repeat (first | (with_reducible first | exact HB.out | apply below_alloc | apply pw_below_drewN | apply below_drew1) | exact HB.out)))); have n0_ := Aside0.mk (below_step (by repeat (first | (with_reducible first | exact HB.out | apply below_alloc | apply pw_below_drewN | apply below_drew1) | exact HB.out)) hb); clear HB; have HB := n0_; clear n0_ ho hb)) | (go_at_call 44; (with_reducible refine (impl_isDial.calls a0 _ _ HT.out).mono ?_); rintro e w' ⟨rfl, ⟨nd, rfl⟩⟩) | (go_at_call 45; (with_reducible refine (impl_areTeeth.calls a1 _ _ HU.out).mono ?_); rintro e w' ⟨rfl, ⟨nd, rfl⟩⟩) | (go_at_call 46; ((with_reducible refine (impl_works.calls k a0 a1 rows _ HW.out).mono ?_); rintro e w9 ⟨v9, rfl, hS, hb⟩; obtain ⟨A9, c9, rfl, hc9, hC9⟩ := Kd.S_reads hS; have HS := Aside0.mk (Kd.S_lower hS (below_size (by repeat (first | (with_reducible first | exact HB.out | apply below_alloc | apply pw_below_drewN | apply below_drew1) | exact HB.out)))); have n1_ := Aside0.mk (Kd.R_below (by (with_reducible repeat (first | apply Kd.R_alloc | apply Kd.R_drewN | apply Kd.R_drew)); exact HO.out) hb); have n0_ := Aside0.mk (below_step (by repeat (first | (with_reducible first | exact HB.out | apply below_alloc | apply pw_below_drewN | apply below_drew1) | exact HB.out)) hb); clear HB HO; have HB := n0_; have HO := n1_; clear n0_ n1_ hS hb hc9 hC9)))
 go_loopg [22, 6] k (fun gk v22 v6 w' => ∃ (i : Int) (out : List S23) (A6 : Option Addr) (c6 : Nat), v22 = .int .i64 i ∧ v6 = .slice A6 out.length c6 ∧ Aside0 (0 ≤ i ∧ i ≤ rows.length) ∧ Aside0 (fmF k rows gk i out = some o) ∧ Aside0 (Kd.R k23 23 w' w.heap.size (fun _ => True) (.slice A6 out.length c6) out) ∧ Aside0 (Kd.S (Kd.slice 23 k23) 28 w' w.heap.size (fun _ => True) (.slice A9 rows.length c9) rows) ∧ Aside0 (Below w.heap.size w w'))
 case atStart => exact ⟨0, [], A8, c8, rfl, rfl, ⟨by omega⟩, HF, HO, HS, HB⟩
 case round =>
  clear HO HS HB HF
  obtain ⟨i, out, A6, c6, rfl, rfl, HI, HA0, HO, HS, HB⟩ := hrel
  cases gk with
  | zero => exact absurd HA0.out (by simp [fmF])
  | succ k1 =>
   have H := HA0.out
   clear HA0
   simp only [fmF] at H
   by_cases c3 : i < (rows.length : Int)
   ·
    rw [if_pos c3] at H
    have c3b : decide (i < (rows.length : Int)) = true := decide_eq_true c3
    have p0 : 0 ≤ i := HI.out.1
    obtain ⟨x, hx, H⟩ := Option.bind_eq_some_iff.mp H
    have H' := Aside0.mk H
    clear H
    have HL := Aside0.mk c3
    obtain ⟨ad, A1, c1, rfl, e1, hcell, hR⟩ := S_elem_row HS.out i p0 c3
    have HR := Aside0.mk hR
    have HCR := Aside0.mk (Kd.R_reads' hR).2.1
    have HC6 := Aside0.mk (Kd.R_reads' HO.out).2.1
    clear hR e1
    unfold fmB at hx
    by_cases z : out.length = 0
    ·
     rw [if_pos z] at hx
     obtain rfl := Option.some.inj hx
     have zb : ((out.length : Int) == 0) = true := beq_iff_eq.2 (by omega)
     clear z hx
     replace p0 := eq_true p0
     replace c3 := eq_true c3
     go_wp2
     go_roundg k1
     case measure => omega
     case rel => exact ⟨i + 1, _, _, _, by rw [IntWalk.wrap64_in (i + 1) ⟨by have := HI.out; omega, by have := HI.out; have := HRL.out; omega⟩], rfl, ⟨by have := HI.out; have := HL.out; omega⟩, H', ⟨(by (with_reducible repeat (first | apply Kd.R_alloc | apply Kd.R_drewN | apply Kd.R_drew)); exact HR.out)⟩, ⟨(by (with_reducible repeat (first | apply Kd.S_alloc | apply Kd.S_drewN | apply Kd.S_drew)); exact HS.out)⟩, ⟨(by repeat (first | (with_reducible first | exact HB.out | apply below_alloc | apply pw_below_drewN | apply below_drew1) | exact HB.out))⟩⟩
    ·
     rw [if_neg z] at hx
     have zb : ((out.length : Int) == 0) = false := beq_eq_false_iff_ne.2 (by omega)
     obtain ⟨a, ha, hx⟩ := Option.bind_eq_some_iff.mp hx
     obtain ⟨b, hb, hx⟩ := Option.bind_eq_some_iff.mp hx
     have HA := Aside0.mk ha
     have HBB := Aside0.mk hb
     clear z ha hb
     replace p0 := eq_true p0
     replace c3 := eq_true c3
     by_cases y : a < b
     ·
      rw [if_pos y] at hx
      obtain rfl := Option.some.inj hx
      have yb : decide (a < b) = true := decide_eq_true y
      clear y hx
      go_wp2_with (first | (go_at_call 47; (with_reducible refine (impl_teeth.calls k A1 c1 (rd_L2 rows i) a _ ?hr HCR.out HA.out).mono ?_); (case hr => refine R_C (e := 23) (base := w.heap.size) (ok := fun _ => True) (n := (rd_L2 rows i).length) (c := c1) ?_; (with_reducible repeat (first | apply Kd.R_alloc | apply Kd.R_drewN | apply Kd.R_drew)); exact HR.out); rintro e wa ⟨rfl, hb⟩; have n0_ := Aside0.mk (below_step (by repeat (first | (with_reducible first | exact HB.out | apply below_alloc | apply pw_below_drewN | apply below_drew1) | exact HB.out)) hb); have n1_ := Aside0.mk (Kd.R_below (by (with_reducible repeat (first | apply Kd.R_alloc | apply Kd.R_drewN | apply Kd.R_drew)); exact HO.out) hb); have n2_ := Aside0.mk (Kd.R_below (by (with_reducible repeat (first | apply Kd.R_alloc | apply Kd.R_drewN | apply Kd.R_drew)); exact HR.out) hb); have n3_ := Aside0.mk (Kd.S_below (by (with_reducible repeat (first | apply Kd.S_alloc | apply Kd.S_drewN | apply Kd.S_drew)); exact HS.out) hb); clear HB HO HR HS; have HB := n0_; have HO := n1_; have HR := n2_; have HS := n3_; clear n0_ n1_ n2_ n3_; clear hb) | (go_at_call 47; (with_reducible refine (impl_teeth.calls k A6 c6 out b _ ?hr HC6.out HBB.out).mono ?_); (case hr => refine R_C (e := 23) (base := w.heap.size) (ok := fun _ => True) (n := out.length) (c := c6) ?_; (with_reducible repeat (first | apply Kd.R_alloc | apply Kd.R_drewN | apply Kd.R_drew)); exact HO.out); rintro e wb ⟨rfl, hb⟩; have n0_ := Aside0.mk (below_step (by repeat (first | (with_reducible first | exact HB.out | apply below_alloc | apply pw_below_drewN | apply below_drew1) | exact HB.out)) hb); have n1_ := Aside0.mk (Kd.R_below (by (with_reducible repeat (first | apply Kd.R_alloc | apply Kd.R_drewN | apply Kd.R_drew)); exact HO.out) hb); have n2_ := Aside0.mk (Kd.R_below (by (with_reducible repeat (first | apply Kd.R_alloc | apply Kd.R_drewN | apply Kd.R_drew)); exact HR.out) hb); have n3_ := Aside0.mk (Kd.S_below (by (with_reducible repeat (first | apply Kd.S_alloc | apply Kd.S_drewN | apply Kd.S_drew)); exact HS.out) hb); clear HB HO HR HS; have HB := n0_; have HO := n1_; have HR := n2_; have HS := n3_; clear n0_ n1_ n2_ n3_; clear hb))
      go_roundg k1
      case measure => omega
      case rel => exact ⟨i + 1, _, _, _, by rw [IntWalk.wrap64_in (i + 1) ⟨by have := HI.out; omega, by have := HI.out; have := HRL.out; omega⟩], rfl, ⟨by have := HI.out; have := HL.out; omega⟩, H', ⟨(by (with_reducible repeat (first | apply Kd.R_alloc | apply Kd.R_drewN | apply Kd.R_drew)); exact HR.out)⟩, ⟨(by (with_reducible repeat (first | apply Kd.S_alloc | apply Kd.S_drewN | apply Kd.S_drew)); exact HS.out)⟩, ⟨(by repeat (first | (with_reducible first | exact HB.out | apply below_alloc | apply pw_below_drewN | apply below_drew1) | exact HB.out))⟩⟩
     ·
      rw [if_neg y] at hx
      obtain rfl := Option.some.inj hx
      have yb : decide (a < b) = false := decide_eq_false y
      clear y hx
      go_wp2_with (first | (go_at_call 47; (with_reducible refine (impl_teeth.calls k A1 c1 (rd_L2 rows i) a _ ?hr HCR.out HA.out).mono ?_); (case hr => refine R_C (e := 23) (base := w.heap.size) (ok := fun _ => True) (n := (rd_L2 rows i).length) (c := c1) ?_; (with_reducible repeat (first | apply Kd.R_alloc | apply Kd.R_drewN | apply Kd.R_drew)); exact HR.out); rintro e wa ⟨rfl, hb⟩; have n0_ := Aside0.mk (below_step (by repeat (first | (with_reducible first | exact HB.out | apply below_alloc | apply pw_below_drewN | apply below_drew1) | exact HB.out)) hb); have n1_ := Aside0.mk (Kd.R_below (by (with_reducible repeat (first | apply Kd.R_alloc | apply Kd.R_drewN | apply Kd.R_drew)); exact HO.out) hb); have n2_ := Aside0.mk (Kd.R_below (by (with_reducible repeat (first | apply Kd.R_alloc | apply Kd.R_drewN | apply Kd.R_drew)); exact HR.out) hb); have n3_ := Aside0.mk (Kd.S_below (by (with_reducible repeat (first | apply Kd.S_alloc | apply Kd.S_drewN | apply Kd.S_drew)); exact HS.out) hb); clear HB HO HR HS; have HB := n0_; have HO := n1_; have HR := n2_; have HS := n3_; clear n0_ n1_ n2_ n3_; clear hb) | (go_at_call 47; (with_reducible refine (impl_teeth.calls k A6 c6 out b _ ?hr HC6.out HBB.out).mono ?_); (case hr => refine R_C (e := 23) (base := w.heap.size) (ok := fun _ => True) (n := out.length) (c := c6) ?_; (with_reducible repeat (first | apply Kd.R_alloc | apply Kd.R_drewN | apply Kd.R_drew)); exact HO.out); rintro e wb ⟨rfl, hb⟩; have n0_ := Aside0.mk (below_step (by repeat (first | (with_reducible first | exact HB.out | apply below_alloc | apply pw_below_drewN | apply below_drew1) | exact HB.out)) hb); have n1_ := Aside0.mk (Kd.R_below (by (with_reducible repeat (first | apply Kd.R_alloc | apply Kd.R_drewN | apply Kd.R_drew)); exact HO.out) hb); have n2_ := Aside0.mk (Kd.R_below (by (with_reducible repeat (first | apply Kd.R_alloc | apply Kd.R_drewN | apply Kd.R_drew)); exact HR.out) hb); have n3_ := Aside0.mk (Kd.S_below (by (with_reducible repeat (first | apply Kd.S_alloc | apply Kd.S_drewN | apply Kd.S_drew)); exact HS.out) hb); clear HB HO HR HS; have HB := n0_; have HO := n1_; have HR := n2_; have HS := n3_; clear n0_ n1_ n2_ n3_; clear hb))
      go_roundg k1
      case measure => omega
      case rel => exact ⟨i + 1, _, _, _, by rw [IntWalk.wrap64_in (i + 1) ⟨by have := HI.out; omega, by have := HI.out; have := HRL.out; omega⟩], rfl, ⟨by have := HI.out; have := HL.out; omega⟩, H', ⟨(by (with_reducible repeat (first | apply Kd.R_alloc | apply Kd.R_drewN | apply Kd.R_drew)); exact HO.out)⟩, ⟨(by (with_reducible repeat (first | apply Kd.S_alloc | apply Kd.S_drewN | apply Kd.S_drew)); exact HS.out)⟩, ⟨(by repeat (first | (with_reducible first | exact HB.out | apply below_alloc | apply pw_below_drewN | apply below_drew1) | exact HB.out))⟩⟩
   ·
    rw [if_neg c3] at H
    have c3b : decide (i < (rows.length : Int)) = false := decide_eq_false c3
    clear c3
    obtain rfl := Option.some.inj H
    clear H
    go_wp2
    all_goals (try go_region)
    all_goals (try go_wp2)
    all_goals go_ret2
    all_goals exact ⟨.slice A6 out.length c6, by simp, (by (with_reducible repeat (first | apply Kd.R_alloc | apply Kd.R_drewN | apply Kd.R_drew)); exact HO.out), (by repeat (first | (with_reducible first | exact HB.out | apply below_alloc | apply pw_below_drewN | apply below_drew1) | exact HB.out))⟩

set_option maxHeartbeats 8000000 in
set_option maxRecDepth 100000 in
theorem impl_FirstMotionWork.no (a0 a1 : Int) (t u : Bool) (w : World) (ht : impl_isDial.f a0 = some t) (hu : impl_areTeeth.f a1 = some u) (hz : ¬ (t = true ∧ u = true)) :
  Calls Try.prog 13 #[.int .i64 a0, .int .i64 a1] w fun e w' => ∃ v0_ : Value, e = .returned (.tuple #[v0_, .bool false]) ∧ Kd.R k23 23 w' w.heap.size (fun _ => True) v0_ [] ∧ Below w.heap.size w w' := by
 have HB := Aside0.mk (Below.refl w.heap.size w)
 have HT := Aside0.mk ht
 have HU := Aside0.mk hu
 cases t with
 | false =>
  clear ht hu hz
  go_enter Try.func13, Try.ntmps13
  go_wp2_with (first | (go_at_call 44; (with_reducible refine (impl_isDial.calls a0 _ _ HT.out).mono ?_); rintro e w' ⟨rfl, ⟨nd, rfl⟩⟩) | (go_at_call 45; (with_reducible refine (impl_areTeeth.calls a1 _ _ HU.out).mono ?_); rintro e w' ⟨rfl, ⟨nd, rfl⟩⟩))
  go_ret2
  exact ⟨_, rfl, Kd.R_nil _ _ _ _ _, (by repeat (first | (with_reducible first | exact HB.out | apply below_alloc | apply pw_below_drewN | apply below_drew1) | exact HB.out))⟩
 | true =>
  cases u with
  | false =>
   clear ht hu hz
   go_enter Try.func13, Try.ntmps13
   go_wp2_with (first | (go_at_call 44; (with_reducible refine (impl_isDial.calls a0 _ _ HT.out).mono ?_); rintro e w' ⟨rfl, ⟨nd, rfl⟩⟩) | (go_at_call 45; (with_reducible refine (impl_areTeeth.calls a1 _ _ HU.out).mono ?_); rintro e w' ⟨rfl, ⟨nd, rfl⟩⟩))
   go_ret2
   exact ⟨_, rfl, Kd.R_nil _ _ _ _ _, (by repeat (first | (with_reducible first | exact HB.out | apply below_alloc | apply pw_below_drewN | apply below_drew1) | exact HB.out))⟩
  | true => exact absurd ⟨rfl, rfl⟩ hz

theorem impl_FirstMotionWork.calls (k : Nat) (a0 : Int) (a1 : Int) (r1 : List (S23)) (r2 : Bool) (w : World) (h : impl_FirstMotionWork.f k a0 a1 = some (r1, r2)) :
  Calls Try.prog 13 #[.int .i64 a0, .int .i64 a1] w fun e w' => ∃ v0_ : Value, e = .returned (.tuple #[v0_, .bool r2]) ∧ Kd.R k23 23 w' w.heap.size (fun _ => True) v0_ r1 ∧ Below w.heap.size w w' := by
 unfold impl_FirstMotionWork.f at h
 obtain ⟨t, ht, h⟩ := Option.bind_eq_some_iff.mp h
 obtain ⟨u, hu, h⟩ := Option.bind_eq_some_iff.mp h
 by_cases z : t = true ∧ u = true
 ·
  rw [if_pos z] at h
  obtain ⟨rows, hw, h⟩ := Option.bind_eq_some_iff.mp h
  obtain ⟨o, ho, h⟩ := Option.bind_eq_some_iff.mp h
  simp only [Option.some.injEq, Prod.mk.injEq] at h
  obtain ⟨rfl, rfl⟩ := h
  obtain ⟨rfl, rfl⟩ := z
  split at ho
  ·
   rename_i hl
   exact impl_FirstMotionWork.yes k a0 a1 rows _ w ht hu hw hl ho
  ·
   cases ho
 ·
  rw [if_neg z] at h
  simp only [Option.some.injEq, Prod.mk.injEq] at h
  obtain ⟨rfl, rfl⟩ := h
  exact impl_FirstMotionWork.no a0 a1 t u w ht hu z

/-! ### spec_diHours: function 41 -/
def spec_diHours.f (a0 : Int) : Option (Bool) := (spec_l1In.f a0 2 24).bind fun t149 => (some t149)
set_option maxHeartbeats 8000000 in
set_option maxRecDepth 100000 in
theorem spec_diHours.calls (a0 : Int) (r : Bool) (w : World) (h : spec_diHours.f a0 = some r) :
  Calls Try.prog 41 #[.int .i64 a0] w fun e w' => e = .returned (.bool r) ∧ Drawn0 w w' := by
 have H : ((spec_l1In.f a0 2 24).bind fun t149 => (some t149)) = some r := h
 clear h
 replace H := Option.bind_eq_some_iff.mp H
 obtain ⟨t149, A20, H⟩ := H
 replace H : (some t149) = some r := H
 have A2 := Aside0.mk A20
 clear A20
 as_aux_lemma =>
  obtain rfl := Option.some.inj H
  go_enter Try.func41, Try.ntmps41
  go_wp2_with (first | ((with_reducible refine gate_callee (f := 53) rfl ?_); refine goesL_ (some 4) rfl rfl Try.func53 (by kernel_rfl) rfl #[.int .i64 a0, .int .i64 2, .int .i64 24] rfl (by (try simp only [List.map_toArray, List.map_cons, List.map_nil]); first | done | rfl | (simp only [List.length_drop, List.length_take]; rfl)) ?_; (with_reducible refine (spec_l1In.calls a0 2 24 t149 _ A2.out).mono ?_); rintro e w' ⟨rfl, ⟨nd, rfl⟩⟩; refine ⟨_, rfl, ?_⟩))
  go_ret
  exact ⟨by first | rfl | (simp; done) | (simp [*]; done), by repeat (first | exact Drawn0.refl _ | apply Drawn0.step)⟩

end Go.Proofs.Ytofjjfaaadllmaa.GFnTrainsFoundOfAll
