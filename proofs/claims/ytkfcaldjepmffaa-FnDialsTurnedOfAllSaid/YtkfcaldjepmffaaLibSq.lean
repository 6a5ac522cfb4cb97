/- The steps that a long walk repeats, under short names. -/
import Derived.Test.YtkfcaldjepmffaaWWords
import Derived.Test.YtkfcaldjepmffaaWLast
set_option linter.unusedVariables false
namespace Go.Proofs.YtkfcaldjepmffaaW.PrintLast
open Go.RowKit Go.Proofs.YtkfcaldjepmffaaW.PrintWords
theorem bb {w0 w1 w2 : World} {g : Nat} {o : Obj} (h : Aside0 (w0.heap[g]? = some o)) (hb : Below w1.heap.size w1 w2)
    (d : w0.heap[g]? = some o → w1.heap[g]? = some o := by intro h_; (with_reducible repeat (first | refine blk_drewN ?_ _ | refine blk_drew ?_ | refine blk_alloc ?_ _ | refine blk_far ?_ (Aside0.out (by assumption)) _)); exact h_) : Aside0 (w2.heap[g]? = some o) := ⟨blk_below (d h.out) hb⟩
theorem hs {w w0 w1 w2 : World} (h : Aside0 (Below w.heap.size w w0)) (hb : Below w1.heap.size w1 w2)
    (d : Below w.heap.size w w0 → Below w.heap.size w w1 := by intro h_; repeat (first | (with_reducible first | exact h_ | apply below_alloc | apply pw_below_drewN | apply below_drew1 | refine below_set ?_ (Aside0.out (by assumption))) | exact h_)) : Aside0 (Below w.heap.size w w2) := ⟨below_step (d h.out) hb⟩
theorem ge_ {w w0 w1 : World} {gb : Nat} (h : Aside0 (Below w.heap.size w w0)) (hg : gb = w1.heap.size)
    (d : Below w.heap.size w w0 → Below w.heap.size w w1 := by intro h_; repeat (first | (with_reducible first | exact h_ | apply below_alloc | apply pw_below_drewN | apply below_drew1 | refine below_set ?_ (Aside0.out (by assumption))) | exact h_)) : Aside0 (w.heap.size ≤ gb) := ⟨by rw [hg]; exact below_size (d h.out)⟩
theorem en_ {w0 w1 : World} {g gb : Nat} {o : Obj} (h : Aside0 (w0.heap[g]? = some o)) (hg : gb = w1.heap.size)
    (d : w0.heap[g]? = some o → w1.heap[g]? = some o := by intro h_; (with_reducible repeat (first | refine blk_drewN ?_ _ | refine blk_drew ?_ | refine blk_alloc ?_ _ | refine blk_far ?_ (Aside0.out (by assumption)) _)); exact h_) : Aside0 (gb ≠ g) := ⟨by rw [hg]; exact Nat.ne_of_gt (blk_lt (d h.out))⟩
theorem bk_ {w0 w1 : World} {g : Nat} {o : Obj} (h : Aside0 (w0.heap[g]? = some o))
    (d : w0.heap[g]? = some o → w1.heap[g]? = some o := by intro h_; (with_reducible repeat (first | refine blk_drewN ?_ _ | refine blk_drew ?_ | refine blk_alloc ?_ _ | refine blk_far ?_ (Aside0.out (by assumption)) _)); exact h_) : Aside0 (w1.heap[g]? = some o) := ⟨d h.out⟩
theorem hb_ {w w0 w1 : World} (h : Aside0 (Below w.heap.size w w0))
    (d : Below w.heap.size w w0 → Below w.heap.size w w1 := by intro h_; repeat (first | (with_reducible first | exact h_ | apply below_alloc | apply pw_below_drewN | apply below_drew1 | refine below_set ?_ (Aside0.out (by assumption))) | exact h_)) : Aside0 (Below w.heap.size w w1) := ⟨d h.out⟩
end Go.Proofs.YtkfcaldjepmffaaW.PrintLast
