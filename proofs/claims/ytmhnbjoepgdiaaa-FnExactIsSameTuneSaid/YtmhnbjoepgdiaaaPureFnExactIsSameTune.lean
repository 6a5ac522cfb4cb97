/- FnExactIsSameTune: the law's printed function answers true at every input. -/
import Derived.Test.YtmhnbjoepgdiaaaGFnExactIsSameTunex3
import Derived.Test.YtmhnbjoepgdiaaaLib
import Derived.Test.YtmhnbjoepgdiaaaLibRows
import Derived.Test.YtmhnbjoepgdiaaaLibGcd
set_option linter.unusedVariables false
set_option linter.unusedSimpArgs false
namespace Go.Proofs.Ytmhnbjoepgdiaaa.Pure.FnExactIsSameTuneWay
open Go.RowKit Go.Proofs.Ytmhnbjoepgdiaaa.GFnExactIsSameTune Go.Proofs.YtmhnbjoepgdiaaaW.PrintWords Go.Proofs.YtmhnbjoepgdiaaaW.PrintLast Go.Proofs.YtmhnbjoepgdiaaaW.PrintMore Go.Proofs.Ytmhnbjoepgdiaaa.Lib

/-! strSize -/
theorem empty_size : (⟨#[]⟩ : ByteArray).size = 0 := rfl
theorem rdS_mem (l : List ByteArray) (i : Int) (h0 : 0 ≤ i) (h : i < (l.length : Int)) : rdOf ByteArray.empty l i ∈ l := by
  unfold rdOf
  rw [List.getD_eq_getElem?_getD, List.getElem?_eq_getElem (by omega)]
  exact List.getElem_mem _
theorem rdS_get (l : List ByteArray) (i : Nat) (h : i < l.length) : rdOf ByteArray.empty l i = l[i] := by
  unfold rdOf
  rw [List.getD_eq_getElem?_getD, show ((i : Int)).toNat = i by omega, List.getElem?_eq_getElem h]
  rfl

/-! szStringS -/
def sumS : List ByteArray → Nat
  | [] => 0
  | s :: l => s.size + sumS l
theorem sumS_mem {s : ByteArray} : ∀ {l : List ByteArray}, s ∈ l → s.size ≤ sumS l
  | [], h => by simp at h
  | t :: l, h => by
    rcases List.mem_cons.1 h with rfl | h
    · simp only [sumS]
      omega
    · have := sumS_mem h
      simp only [sumS]
      omega
def szR (n : Int) (m : Nat) : Int := if (m : Int) ≤ n then n - (m : Int) else -1
theorem szR_zero {n : Int} (h : 0 ≤ n) : szR n 0 = n := by
  unfold szR
  rw [if_pos (by omega)]
  omega
theorem szR_cons {n : Int} {a : Nat} (b : Nat) (h : (a : Int) ≤ n) : szR n (a + b) = szR (n - a) b := by
  unfold szR
  split <;> split <;> omega
theorem szR_neg {n : Int} {a : Nat} (b : Nat) (h : ¬ (a : Int) ≤ n) : szR n (a + b) = -1 := by
  unfold szR
  rw [if_neg (by omega)]
def szP (l : List ByteArray) (n : Int) : Int := szR n (l.length + sumS l)
theorem szStringS_go {l : List ByteArray} (hs : ∀ s ∈ l, s.size ≤ maxLen) (hl : l.length ≤ 1048576) : ∀ (d j : Nat) (n : Int), j + d = l.length → 0 ≤ n → n ≤ 1048576 → Ev (fun k => laws_szStringS.l0 k l n j) (szR n (sumS (l.drop j))) := by
  intro d
  induction d with
  | zero =>
    intro j n a b c
    refine ev_one fun k => ?_
    simp only [laws_szStringS.l0]
    rw [if_neg (by omega), List.drop_of_length_le (by omega)]
    show some n = some (szR n 0)
    rw [szR_zero b]
  | succ d ih =>
    intro j n a b c
    have m := hs _ (rdS_mem l j (by omega) (by omega))
    unfold maxLen at m
    rw [List.drop_eq_getElem_cons (show j < l.length by omega)]
    refine ev_succ ?_
    simp only [laws_szStringS.l0]
    refine ev_t (by omega) (ev_t (by omega) ?_)
    rw [rdS_get l j (by omega)] at m ⊢
    rw [w64 (x := n - (l[j].size : Int)) (by omega) (by omega), w64 (x := (j : Int) + 1) (by omega) (by omega)]
    show Ev _ (szR n (l[j].size + sumS (l.drop (j + 1))))
    by_cases g : (l[j].size : Int) ≤ n
    · rw [szR_cons _ g]
      exact ev_f (by omega) (ih (j + 1) (n - (l[j].size : Int)) (by omega) (by omega) (by omega))
    · rw [szR_neg _ g]
      exact ev_t (by omega) (ev_now _)
theorem szStringS_ev {l : List ByteArray} {n : Int} (hs : ∀ s ∈ l, s.size ≤ maxLen) (hl : l.length ≤ maxLen) (h0 : 0 ≤ n) (h1 : n ≤ 1048576) : Ev (fun k => laws_szStringS.f k l n) (szP l n) := by
  unfold maxLen at hl
  unfold laws_szStringS.f szP
  rw [w64 (by omega) (by omega)]
  by_cases c : (l.length : Int) ≤ n
  · rw [szR_cons _ c]
    have := szStringS_go hs (by omega) l.length 0 (n - (l.length : Int)) (by omega) (by omega) (by omega)
    rw [List.drop_zero] at this
    exact ev_f (by omega) this
  · rw [szR_neg _ c]
    exact ev_t (by omega) (ev_now _)
theorem szP_pos {l : List ByteArray} {n : Int} (h : (l.length : Int) + (sumS l : Int) ≤ n) : szP l n = n - ((l.length : Int) + (sumS l : Int)) := by
  unfold szP szR
  rw [if_pos (by omega)]
  omega
theorem szP_neg {l : List ByteArray} {n : Int} (h : ¬ (l.length : Int) + (sumS l : Int) ≤ n) : szP l n = -1 := by
  unfold szP szR
  rw [if_neg (by omega)]

/-! toStringS -/
theorem toStringS_ev (l : List ByteArray) (h : l.length ≤ 1000000000) : Ev (fun k => laws_toStringS.f k l) l := by
  unfold laws_toStringS.f
  refine ev_t (by omega) (ev_t (by omega) ?_)
  have := copy_gen (cv := fun s : ByteArray => s) (d := ByteArray.empty) (l0 := laws_toStringS.l0) (by
    intro k xs ys i a b c d
    simp only [laws_toStringS.l0]
    rw [if_pos b, if_pos a, if_pos (by omega), w64 (by omega) (by omega)]
    rfl) (by
    intro k xs ys i a
    simp only [laws_toStringS.l0]
    rw [if_neg a]) l (List.replicate ((l.length : Int) : Int).toNat (⟨#[]⟩ : ByteArray)) (by simp) h
  simpa using this

/-! eqStringS -/
theorem eqStringS_ev (l : List ByteArray) (h : l.length ≤ 1000000000) : Ev (fun k => laws_eqStringS.f k l l) true := by
  unfold laws_eqStringS.f
  refine ev_t rfl ?_
  exact scan_gen (g := fun i k => laws_eqStringS.l0 k l l i) (n := l.length) (fun i a b ih => by
    refine ev_succ ?_
    simp only [laws_eqStringS.l0]
    refine ev_t b (ev_t a (ev_t b (ev_t (by first | rfl | trivial) ?_)))
    rw [w64 (by omega) (by omega)]
    exact ih) (by
    refine ev_one fun k => ?_
    simp only [laws_eqStringS.l0]
    rw [if_neg (by omega)]) 0 (by omega) (by omega)

/-! playP -/
def playP (q : Int) : Int := q / 4 * 10 + (q % 4) * (q % 4 + 1) / 2
theorem playP_nn {q : Int} (h : 0 ≤ q) : 0 ≤ playP q ∧ playP q ≤ 10 * q + 6 := by
  have m : 0 ≤ q % 4 ∧ q % 4 ≤ 3 := by omega
  have p : 0 ≤ (q % 4) * (q % 4 + 1) ∧ (q % 4) * (q % 4 + 1) ≤ 12 := mul_bd (A := 3) (B := 4) m.1 m.2 (by omega) (by omega)
  unfold playP
  omega
theorem playP_step (q : Int) : playP (q + 1) = playP q + (q % 4 + 1) := by
  have c : q % 4 = 0 ∨ q % 4 = 1 ∨ q % 4 = 2 ∨ q % 4 = 3 := by omega
  unfold playP
  rcases c with c | c | c | c
  · rw [c, show (q + 1) % 4 = 1 by omega, show (q + 1) / 4 = q / 4 by omega]
    omega
  · rw [c, show (q + 1) % 4 = 2 by omega, show (q + 1) / 4 = q / 4 by omega]
    omega
  · rw [c, show (q + 1) % 4 = 3 by omega, show (q + 1) / 4 = q / 4 by omega]
    omega
  · rw [c, show (q + 1) % 4 = 0 by omega, show (q + 1) / 4 = q / 4 + 1 by omega]
    omega
theorem playP_hour (q h : Int) : playP (q + 4 * h) = playP q + 10 * h := by
  unfold playP
  rw [show (q + 4 * h) % 4 = q % 4 by omega, show (q + 4 * h) / 4 = q / 4 + h by omega]
  generalize (q % 4) * (q % 4 + 1) / 2 = z
  omega

/-! played -/
theorem played_eq {q : Int} (h0 : 0 ≤ q) (h1 : q ≤ 1000000000) : impl_played.f q = some (playP q) := by
  unfold impl_played.f playP
  rw [tdiv_e h0, tmod_e h0]
  have m : 0 ≤ q % 4 ∧ q % 4 ≤ 3 := by omega
  have p : 0 ≤ (q % 4) * (q % 4 + 1) ∧ (q % 4) * (q % 4 + 1) ≤ 12 := mul_bd (A := 3) (B := 4) m.1 m.2 (by omega) (by omega)
  rw [w64 (x := q / 4) (by omega) (by omega), w64 (x := q / 4 * 10) (by omega) (by omega), w64 (x := q % 4 + 1) (by omega) (by omega), w64 (x := (q % 4) * (q % 4 + 1)) (by omega) (by omega), tdiv_e p.1, w64 (x := (q % 4) * (q % 4 + 1) / 2) (by omega) (by omega), w64 (by omega) (by omega)]

/-! beBefore -/
theorem beBefore_eq {q : Int} (h0 : 0 ≤ q) (h1 : q ≤ 1000000000) : spec_beBefore.f q = some (playP q) := by
  unfold spec_beBefore.f playP
  rw [tdiv_e h0, tmod_e h0]
  have m : 0 ≤ q % 4 ∧ q % 4 ≤ 3 := by omega
  have p : 0 ≤ (q % 4) * (q % 4 + 1) ∧ (q % 4) * (q % 4 + 1) ≤ 12 := mul_bd (A := 3) (B := 4) m.1 m.2 (by omega) (by omega)
  rw [w64 (x := q / 4) (by omega) (by omega), w64 (x := q / 4 * 10) (by omega) (by omega), w64 (x := q % 4 + 1) (by omega) (by omega), w64 (x := (q % 4) * (q % 4 + 1)) (by omega) (by omega), tdiv_e p.1, w64 (x := (q % 4) * (q % 4 + 1) / 2) (by omega) (by omega), w64 (by omega) (by omega)]

/-! phraseB -/
def okB (s : ByteArray) (i : Nat) : Bool := decide (49 ≤ bt s i ∧ bt s i ≤ 56)
def phraseB (s : ByteArray) : Bool := decide (1 ≤ (s.size : Int) ∧ (s.size : Int) ≤ 8) && (List.range s.size).all (okB s)
def tuneB (l : List ByteArray) : Bool := decide (1 ≤ (l.length : Int) ∧ (l.length : Int) ≤ 12) && l.all phraseB
theorem tuneB_of {l : List ByteArray} (h : tuneB l = true) : 1 ≤ l.length ∧ l.length ≤ 12 ∧ ∀ s ∈ l, 1 ≤ s.size ∧ s.size ≤ 8 ∧ ∀ i : Nat, i < s.size → 49 ≤ bt s i ∧ bt s i ≤ 56 := by
  unfold tuneB at h
  simp only [Bool.and_eq_true, decide_eq_true_eq, List.all_eq_true] at h
  refine ⟨by omega, by omega, fun s hs => ?_⟩
  have g := h.2 s hs
  unfold phraseB at g
  simp only [Bool.and_eq_true, decide_eq_true_eq, List.all_eq_true, List.mem_range] at g
  refine ⟨by omega, by omega, fun i hi => ?_⟩
  have := g.2 i hi
  unfold okB at this
  simpa using this
theorem range_drop (n i : Nat) (h : i < n) : (List.range n).drop i = i :: (List.range n).drop (i + 1) := by
  rw [List.drop_eq_getElem_cons (by simpa using h)]
  simp

/-! phrases -/
def phrP (l : List ByteArray) (q : Int) : List Int := upTo (fun i => i % (l.length : Int)) (playP q) (q % 4 + 1).toNat
theorem bePlays_ev {l : List ByteArray} {q : Int} (h : tuneB l = true) (h0 : 0 ≤ q) (h1 : q ≤ 1000000000) : Ev (fun k => spec_bePlays.f k l q) (phrP l q) := by
  have t := tuneB_of h
  have p := playP_nn h0
  have e : phrP l q = upTo (fun i => Int.tmod (wrap64 (playP q + i)) (l.length : Int)) 0 (q % 4 + 1 - 0).toNat := by
    unfold phrP
    have := upTo_shift (fun i => i % (l.length : Int)) (playP q) (q % 4 + 1).toNat 0
    rw [Int.add_zero] at this
    rw [← this, Int.sub_zero]
    refine upTo_congr _ _ (fun j a b => ?_)
    rw [w64 (by omega) (by omega), tmod_e (by omega)]
  rw [e]
  unfold spec_bePlays.f
  refine fill_gen (l0 := fun k acc i => spec_bePlays.l0 k l q acc i) (g := fun i => Int.tmod (wrap64 (playP q + i)) (l.length : Int)) (F := fun acc => acc) (n := q % 4) (i0 := 0) (by omega) ?_ ?_
  · intro k acc i a b c
    simp only [spec_bePlays.l0]
    rw [tmod_e h0, if_pos b, beBefore_eq h0 h1, Option.bind_some, if_neg (by omega), if_pos (by omega), w64 (x := i + 1) (by omega) (by omega)]
  · intro k acc i a
    simp only [spec_bePlays.l0]
    rw [tmod_e h0, if_neg (by omega)]
theorem phrases_ev {l : List ByteArray} {q : Int} (h : tuneB l = true) (h0 : 0 ≤ q) (h1 : q ≤ 100000000) : Ev (fun k => impl_phrases.f k l q) (phrP l q) := by
  have t := tuneB_of h
  have p := playP_nn h0
  have p1 := playP_nn (q := q + 1) (by omega)
  have st := playP_step q
  have e : phrP l q = upTo (fun i => Int.tmod i (l.length : Int)) (playP q) (playP (q + 1) - 1 + 1 - playP q).toNat := by
    unfold phrP
    rw [st, show playP q + (q % 4 + 1) - 1 + 1 - playP q = q % 4 + 1 by omega]
    exact upTo_congr _ _ (fun j a b => (tmod_e (by omega)).symm)
  rw [e]
  unfold impl_phrases.f
  refine ev_p (played_eq h0 (by omega)) ?_
  refine fill_gen (l0 := fun k acc i => impl_phrases.l0 k l q acc i) (g := fun i => Int.tmod i (l.length : Int)) (F := fun acc => acc) (n := playP (q + 1) - 1) (i0 := playP q) (by omega) ?_ ?_
  · intro k acc i a b c
    simp only [impl_phrases.l0]
    rw [w64 (x := q + 1) (by omega) (by omega), played_eq (by omega) (by omega), Option.bind_some, if_pos (by omega), if_neg (by omega), if_pos (by omega), w64 (x := i + 1) (by omega) (by omega)]
  · intro k acc i a
    simp only [impl_phrases.l0]
    rw [w64 (x := q + 1) (by omega) (by omega), played_eq (by omega) (by omega), Option.bind_some, if_neg (by omega)]
theorem phrP_mem {l : List ByteArray} {q : Int} (h : tuneB l = true) : ∀ k ∈ phrP l q, 0 ≤ k ∧ k < (l.length : Int) := by
  have t := tuneB_of h
  intro k hk
  obtain ⟨j, _, _, rfl⟩ := upTo_mem _ _ hk
  exact ⟨Int.emod_nonneg _ (by omega), Int.emod_lt_of_pos _ (by omega)⟩
theorem phrP_len (l : List ByteArray) (q : Int) : (phrP l q).length ≤ 4 := by
  unfold phrP
  rw [upTo_length]
  omega

/-! notes -/
def catP (l : List ByteArray) : List Int → ByteArray → ByteArray
  | [], acc => acc
  | k :: ks, acc => catP l ks (acc ++ rdOf ByteArray.empty l k)
def noteP (l : List ByteArray) (q : Int) : ByteArray := catP l (phrP l q) (⟨#[]⟩ : ByteArray)

theorem notesS_go {l : List ByteArray} {ks : List Int} (h : tuneB l = true) (hk : ∀ k ∈ ks, 0 ≤ k ∧ k < (l.length : Int)) (hn : ks.length ≤ 4) : ∀ (d j : Nat) (acc : ByteArray), j + d = ks.length → acc.size ≤ 8 * j → Ev (fun k => spec_beNotes.l0 k l acc ks (ks.length : Int) j) (catP l (ks.drop j) acc) := by
  have t := tuneB_of h
  intro d
  induction d with
  | zero =>
    intro j acc a b
    refine ev_one fun k => ?_
    simp only [spec_beNotes.l0]
    rw [if_neg (by omega), List.drop_of_length_le (by omega)]
    rfl
  | succ d ih =>
    intro j acc a b
    have hj : j < ks.length := by omega
    have e : rd ks j = ks[j] := by
      unfold rd
      rw [List.getD_eq_getElem?_getD, show ((j : Int)).toNat = j by omega, List.getElem?_eq_getElem hj]
      rfl
    have m := hk _ (List.getElem_mem hj)
    have sz := (t.2.2 _ (rdS_mem l ks[j] m.1 m.2)).2.1
    rw [List.drop_eq_getElem_cons hj]
    simp only [catP]
    refine ev_succ ?_
    simp only [spec_beNotes.l0]
    rw [e, w64 (x := (j : Int) + 1) (by omega) (by omega)]
    refine ev_t (by omega) (ev_t (by omega) (ev_t (by omega) (ev_t m.1 (ev_t m.2 (ev_t (by omega) ?_)))))
    exact ih (j + 1) _ (by omega) (by rw [ByteArray.size_append]; omega)

theorem notesI_go {l : List ByteArray} {ks : List Int} (h : tuneB l = true) (hk : ∀ k ∈ ks, 0 ≤ k ∧ k < (l.length : Int)) (hn : ks.length ≤ 4) : ∀ (d j : Nat) (acc : ByteArray), j + d = ks.length → acc.size ≤ 8 * j → Ev (fun k => impl_notes.l0 k l acc ks (ks.length : Int) j) (catP l (ks.drop j) acc) := by
  have t := tuneB_of h
  intro d
  induction d with
  | zero =>
    intro j acc a b
    refine ev_one fun k => ?_
    simp only [impl_notes.l0]
    rw [if_neg (by omega), List.drop_of_length_le (by omega)]
    rfl
  | succ d ih =>
    intro j acc a b
    have hj : j < ks.length := by omega
    have e : rd ks j = ks[j] := by
      unfold rd
      rw [List.getD_eq_getElem?_getD, show ((j : Int)).toNat = j by omega, List.getElem?_eq_getElem hj]
      rfl
    have m := hk _ (List.getElem_mem hj)
    have sz := (t.2.2 _ (rdS_mem l ks[j] m.1 m.2)).2.1
    rw [List.drop_eq_getElem_cons hj]
    simp only [catP]
    refine ev_succ ?_
    simp only [impl_notes.l0]
    rw [e, w64 (x := (j : Int) + 1) (by omega) (by omega)]
    refine ev_t (by omega) (ev_t (by omega) (ev_t (by omega) (ev_t m.1 (ev_t m.2 (ev_t (by omega) ?_)))))
    exact ih (j + 1) _ (by omega) (by rw [ByteArray.size_append]; omega)

theorem beNotes_ev {l : List ByteArray} {q : Int} (h : tuneB l = true) (h0 : 0 ≤ q) (h1 : q ≤ 100000000) : Ev (fun k => spec_beNotes.f k l q) (noteP l q) := by
  unfold spec_beNotes.f
  refine Ev.bind (bePlays_ev h h0 (by omega)) ?_
  have := notesS_go h (phrP_mem h) (phrP_len l q) (phrP l q).length 0 (⟨#[]⟩ : ByteArray) (by omega) (by rw [empty_size]; omega)
  rw [List.drop_zero] at this
  exact this
theorem notes_ev {l : List ByteArray} {q : Int} (h : tuneB l = true) (h0 : 0 ≤ q) (h1 : q ≤ 100000000) : Ev (fun k => impl_notes.f k l q) (noteP l q) := by
  unfold impl_notes.f
  refine Ev.bind (phrases_ev h h0 (by omega)) ?_
  have := notesI_go h (phrP_mem h) (phrP_len l q) (phrP l q).length 0 (⟨#[]⟩ : ByteArray) (by omega) (by rw [empty_size]; omega)
  rw [List.drop_zero] at this
  exact this

/-! gcd -/
theorem gcd_ev (a b : Int) (ha : a.natAbs ≤ 4611686018427387904) (hb : b.natAbs ≤ 4611686018427387904) : Ev (fun k => impl_gcd.f k a b) (Int.gcd a b : Int) := by
  unfold impl_gcd.f
  exact gcd_gen (l0 := impl_gcd.l0) (fun _ _ _ => by simp only [impl_gcd.l0]) b.natAbs a b ha hb (Nat.le_refl _)

/-! diCommon -/
theorem diCommon_ev (a b : Int) (ha : 0 ≤ a) (hb : 0 ≤ b) : Ev (fun k => spec_diCommon.f k a b) (Int.gcd a b : Int) := by
  unfold spec_diCommon.f
  exact common_gen (l0 := spec_diCommon.l0) (fun _ _ _ => by simp only [spec_diCommon.l0]) b.natAbs a b ha hb (Nat.le_refl _)

/-! hours -/
def hourP (l : List ByteArray) : Int := (l.length : Int) / (Int.gcd (l.length : Int) 10 : Int)
theorem hourP_bd {l : List ByteArray} (h : tuneB l = true) : 1 ≤ hourP l ∧ hourP l ≤ 12 := by
  have t := tuneB_of h
  have a := low_posN (a := (l.length : Int)) (b := 10) (by omega) (by omega)
  have b := low_bdN (l.length : Int) 10
  unfold lowN at a b
  unfold hourP
  omega
theorem hours_ev {l : List ByteArray} (h : tuneB l = true) : Ev (fun k => impl_hours.f k l) (hourP l) := by
  have t := tuneB_of h
  have b := hourP_bd h
  have g := gcd_pos (a := (l.length : Int)) (b := 10) (by omega)
  unfold impl_hours.f
  refine Ev.bind (gcd_ev (l.length : Int) 10 (by omega) (by omega)) (ev_f (by omega) ?_)
  unfold hourP at b ⊢
  rw [w64 (by omega) (by omega)]
  exact ev_now _
theorem beHours_ev {l : List ByteArray} (h : tuneB l = true) : Ev (fun k => spec_beHours.f k l) (hourP l) := by
  have t := tuneB_of h
  have b := hourP_bd h
  have g := gcd_pos (a := (l.length : Int)) (b := 10) (by omega)
  unfold spec_beHours.f
  refine Ev.bind (diCommon_ev (l.length : Int) 10 (by omega) (by omega)) (ev_f (by omega) ?_)
  unfold hourP at b ⊢
  rw [w64 (by omega) (by omega)]
  exact ev_now _
theorem hourP_dvd (l : List ByteArray) : (l.length : Int) ∣ 10 * hourP l := by
  have e1 := low_num (l.length : Int) 10
  have e2 := low_den (l.length : Int) 10
  refine ⟨lowD (l.length : Int) 10, ?_⟩
  show 10 * lowN (l.length : Int) 10 = _
  generalize lowN (l.length : Int) 10 = n at *
  generalize lowD (l.length : Int) 10 = d at *
  generalize (Int.gcd (l.length : Int) 10 : Int) = g at *
  rw [← e1]
  have : (10 : Int) = d * g := e2.symm
  rw [this]
  simp only [Int.mul_comm, Int.mul_left_comm]

/-! within -/
theorem within_eq (a b c : Int) : impl_within.f a b c = some (decide (b ≤ a ∧ a ≤ c)) := within_gen (fun _ _ _ => rfl) a b c

/-! isPhrase -/
theorem isPhrase_go (s : ByteArray) (hs : s.size ≤ 1000000000) : ∀ (d i : Nat), i + d = s.size → Ev (fun k => impl_isPhrase.l0 k s (s.size : Int) i) (((List.range s.size).drop i).all (okB s) && decide (1 ≤ (s.size : Int) ∧ (s.size : Int) ≤ 8)) := by
  intro d
  induction d with
  | zero =>
    intro i a
    refine ev_succ ?_
    simp only [impl_isPhrase.l0]
    rw [List.drop_of_length_le (by simp; omega)]
    exact ev_f (by omega) (ev_p (within_eq _ _ _) (ev_con (by simp)))
  | succ d ih =>
    intro i a
    rw [range_drop _ _ (by omega), List.all_cons]
    refine ev_succ ?_
    simp only [impl_isPhrase.l0]
    refine ev_t (by omega) (ev_t (by omega) (ev_t (by omega) ?_))
    by_cases c1 : bt s i < 49
    · have e : okB s i = false := decide_eq_false (by omega)
      rw [e]
      exact ev_t c1 (ev_now _)
    · refine ev_f c1 ?_
      by_cases c2 : bt s i > 56
      · have e : okB s i = false := decide_eq_false (by omega)
        rw [e]
        exact ev_t c2 (ev_now _)
      · have e : okB s i = true := decide_eq_true (by omega)
        rw [e, w64 (by omega) (by omega)]
        exact ev_f c2 (ih (i + 1) (by omega))
theorem isPhrase_ev (s : ByteArray) (hs : s.size ≤ 1000000000) : Ev (fun k => impl_isPhrase.f k s) (phraseB s) := by
  have := isPhrase_go s hs s.size 0 (by omega)
  rw [List.drop_zero, Bool.and_comm] at this
  unfold impl_isPhrase.f
  exact this

/-! IsTune -/
theorem anyBad_ev : ∀ (l : List ByteArray), (∀ s ∈ l, s.size ≤ 1000000000) → Ev (fun k => anyBad k l) (!(l.all phraseB))
  | [], _ => ev_con rfl
  | s :: l, h => by
    simp only [anyBad, List.all_cons]
    refine Ev.bind (isPhrase_ev s (h s List.mem_cons_self)) ?_
    cases c : phraseB s
    · exact ev_f (by simp) (ev_now _)
    · exact ev_t rfl (by simpa using anyBad_ev l (fun x hx => h x (List.mem_cons_of_mem _ hx)))
theorem isTune_ev (l : List ByteArray) (h : ∀ s ∈ l, s.size ≤ 1000000000) : Ev (fun k => impl_IsTune.f k l) (tuneB l) := by
  unfold impl_IsTune.f
  refine ev_p (within_eq _ _ _) ?_
  by_cases c : 1 ≤ (l.length : Int) ∧ (l.length : Int) ≤ 12
  · refine ev_t (decide_eq_true c) (Ev.bind (anyBad_ev l h) (ev_con ?_))
    unfold tuneB
    rw [decide_eq_true c]
    simp
  · refine ev_f (by simp only [decide_eq_true_eq]; exact c) (ev_con ?_)
    unfold tuneB
    rw [decide_eq_false c]
    rfl

/-! l1In -/
theorem l1In_eq (a b c : Int) : spec_l1In.f a b c = some (decide (b ≤ a ∧ a ≤ c)) := within_gen (fun _ _ _ => rfl) a b c

/-! beTune -/
theorem beTune_in {l : List ByteArray} {j : Nat} {s : ByteArray} {R : Bool} (hs : s.size ≤ 8) (hj : j < 1000000) (hR : Ev (fun k => spec_beTune.l0 k l (l.length : Int) (j + 1 : Nat)) R) : ∀ (d i : Nat), i + d = s.size → Ev (fun k => spec_beTune.l1 k s i l (l.length : Int) j) (((List.range s.size).drop i).all (okB s) && R) := by
  intro d
  induction d with
  | zero =>
    intro i a
    refine ev_succ ?_
    simp only [spec_beTune.l1]
    rw [List.drop_of_length_le (by simp; omega), w64 (x := (j : Int) + 1) (by omega) (by omega)]
    exact ev_f (by omega) (by simpa using hR)
  | succ d ih =>
    intro i a
    rw [range_drop _ _ (by omega), List.all_cons]
    refine ev_succ ?_
    simp only [spec_beTune.l1]
    refine ev_t (by omega) (ev_t (by omega) ?_)
    by_cases c1 : bt s i < 49
    · have e : okB s i = false := decide_eq_false (by omega)
      rw [e]
      exact ev_t c1 (ev_now _)
    · refine ev_f c1 ?_
      by_cases c2 : bt s i > 56
      · have e : okB s i = false := decide_eq_false (by omega)
        rw [e]
        exact ev_t c2 (ev_now _)
      · have e : okB s i = true := decide_eq_true (by omega)
        rw [e, w64 (x := (i : Int) + 1) (by omega) (by omega)]
        exact ev_f c2 (ih (i + 1) (by omega))
theorem beTune_ev (l : List ByteArray) : Ev (fun k => spec_beTune.f k l) (tuneB l) := by
  unfold spec_beTune.f
  refine ev_p (l1In_eq _ _ _) ?_
  by_cases c : 1 ≤ (l.length : Int) ∧ (l.length : Int) ≤ 12
  · refine ev_t (decide_eq_true c) ?_
    have e : tuneB l = l.all phraseB := by
      unfold tuneB
      rw [decide_eq_true c]
      rfl
    rw [e]
    have go : ∀ (d j : Nat), j + d = l.length → Ev (fun k => spec_beTune.l0 k l (l.length : Int) j) ((l.drop j).all phraseB) := by
      intro d
      induction d with
      | zero =>
        intro j a
        refine ev_one fun k => ?_
        simp only [spec_beTune.l0]
        rw [if_neg (by omega), List.drop_of_length_le (by omega)]
        rfl
      | succ d ih =>
        intro j a
        rw [List.drop_eq_getElem_cons (show j < l.length by omega), List.all_cons]
        refine ev_succ ?_
        simp only [spec_beTune.l0]
        refine ev_t (by omega) (ev_t (by omega) (ev_t (by omega) (ev_p (l1In_eq _ _ _) ?_)))
        rw [rdS_get l j (by omega)]
        by_cases g : 1 ≤ (l[j].size : Int) ∧ (l[j].size : Int) ≤ 8
        · refine ev_t (decide_eq_true g) ?_
          have e2 : phraseB l[j] = (List.range l[j].size).all (okB l[j]) := by
            unfold phraseB
            rw [decide_eq_true g]
            rfl
          rw [e2]
          have := beTune_in (l := l) (j := j) (s := l[j]) (by omega) (by omega) (ih (j + 1) (by omega)) l[j].size 0 (by omega)
          rw [List.drop_zero] at this
          exact this
        · refine ev_f (by simp only [decide_eq_true_eq]; exact g) ?_
          have e2 : phraseB l[j] = false := by
            unfold phraseB
            rw [decide_eq_false g]
            rfl
          rw [e2]
          exact ev_now _
    have := go l.length 0 (by omega)
    rw [List.drop_zero] at this
    exact this
  · refine ev_f (by simp only [decide_eq_true_eq]; exact c) ?_
    have e : tuneB l = false := by
      unfold tuneB
      rw [decide_eq_false c]
      rfl
    rw [e]
    exact ev_now _

/-! IsSameTune -/
def eqN (a b : List ByteArray) (q : Int) : Prop := (noteP a q).toList = (noteP b q).toList
theorem phrP_hour {l : List ByteArray} (h : tuneB l = true) (q : Int) (n m : Int) (hn : n = hourP l * m) : phrP l (q + 4 * n) = phrP l q := by
  have t := tuneB_of h
  unfold phrP
  rw [playP_hour, show (q + 4 * n) % 4 = q % 4 by omega]
  have := upTo_shift (fun i => i % (l.length : Int)) (10 * n) (q % 4 + 1).toNat (playP q)
  rw [show playP q + 10 * n = 10 * n + playP q by omega, ← this]
  refine upTo_congr _ _ (fun j _ _ => ?_)
  obtain ⟨c, hc⟩ := hourP_dvd l
  have e : 10 * n = (l.length : Int) * (c * m) := by
    rw [hn, ← Int.mul_assoc, hc, Int.mul_assoc]
  show (10 * n + j) % _ = _
  rw [e, Int.add_comm, Int.add_mul_emod_self_left]
theorem noteP_hour {l : List ByteArray} (h : tuneB l = true) (q n m : Int) (hn : n = hourP l * m) : noteP l (q + 4 * n) = noteP l q := by
  unfold noteP
  rw [phrP_hour h q n m hn]
def lcmP (a b : List ByteArray) : Int := lowN (hourP a) (hourP b) * hourP b
theorem lcmP_mul {a b : List ByteArray} (h : tuneB a = true) (g : tuneB b = true) : 1 ≤ lcmP a b ∧ lcmP a b ≤ 144 ∧ (∃ m, lcmP a b = hourP a * m) ∧ (∃ m, lcmP a b = hourP b * m) ∧ lcmP a b ∣ hourP a * hourP b := by
  have x := hourP_bd h
  have y := hourP_bd g
  have d := lcm_dvd (a := hourP a) (b := hourP b) (c := hourP a * hourP b) x.1 y.1 (Int.dvd_mul_right _ _) (Int.dvd_mul_left _ _)
  have bn := low_bdN (hourP a) (hourP b)
  have p := low_posN x.1 y.1
  have m := mul_bd (a := lowN (hourP a) (hourP b)) (b := hourP b) (A := 12) (B := 12) (by omega) (by omega) (by omega) (by omega)
  have e1 := low_num (hourP a) (hourP b)
  have e2 := low_den (hourP a) (hourP b)
  refine ⟨d.2, m.2, ⟨lowD (hourP a) (hourP b), ?_⟩, ⟨lowN (hourP a) (hourP b), Int.mul_comm _ _⟩, d.1⟩
  show lowN (hourP a) (hourP b) * hourP b = hourP a * lowD (hourP a) (hourP b)
  generalize lowN (hourP a) (hourP b) = u at *
  generalize lowD (hourP a) (hourP b) = v at *
  generalize (Int.gcd (hourP a) (hourP b) : Int) = w at *
  rw [← e1, ← e2]
  simp only [Int.mul_comm, Int.mul_left_comm]
theorem eqN_mod {a b : List ByteArray} (h : tuneB a = true) (g : tuneB b = true) (all : ∀ i : Int, 0 ≤ i → i < 4 * lcmP a b → eqN a b i) (q : Int) (hq : 0 ≤ q) : eqN a b q := by
  obtain ⟨l1, l2, ⟨m, hm⟩, ⟨m', hm'⟩, _⟩ := lcmP_mul h g
  have e : q = q % (4 * lcmP a b) + 4 * (lcmP a b * (q / (4 * lcmP a b))) := by
    have := Int.emod_add_mul_ediv q (4 * lcmP a b)
    rw [← Int.mul_assoc]
    omega
  have z := all (q % (4 * lcmP a b)) (Int.emod_nonneg _ (by omega)) (Int.emod_lt_of_pos _ (by omega))
  unfold eqN at z ⊢
  rw [e, noteP_hour h _ (lcmP a b * (q / (4 * lcmP a b))) (m * (q / (4 * lcmP a b))) (by rw [hm, Int.mul_assoc]), noteP_hour g _ (lcmP a b * (q / (4 * lcmP a b))) (m' * (q / (4 * lcmP a b))) (by rw [hm', Int.mul_assoc])]
  exact z
noncomputable def allN (a b : List ByteArray) : Bool := @decide (∀ i : Int, 0 ≤ i → i < 4 * lcmP a b → eqN a b i) (Classical.propDecidable _)
theorem allN_t {a b : List ByteArray} (h : ∀ i : Int, 0 ≤ i → i < 4 * lcmP a b → eqN a b i) : allN a b = true := by
  unfold allN
  exact @decide_eq_true _ (Classical.propDecidable _) h
theorem allN_f {a b : List ByteArray} (h : ¬ ∀ i : Int, 0 ≤ i → i < 4 * lcmP a b → eqN a b i) : allN a b = false := by
  unfold allN
  exact @decide_eq_false _ (Classical.propDecidable _) h
noncomputable def SameP (a b : List ByteArray) : Bool × Bool := if tuneB a = true ∧ tuneB b = true then (allN a b, true) else (false, false)
theorem same_scan {a b : List ByteArray} {n : Nat} {R : Bool} {G : Int → Nat → Option (Bool × Bool)} (hall : (∀ i : Int, 0 ≤ i → i < n → eqN a b i) → R = true) (hno : (∃ i : Int, 0 ≤ i ∧ i < n ∧ ¬ eqN a b i) → R = false)
    (h1 : ∀ (i : Int) r, 0 ≤ i → i < n → eqN a b i → Ev (G (i + 1)) r → Ev (G i) r) (h2 : ∀ i : Int, 0 ≤ i → i < n → ¬ eqN a b i → Ev (G i) (false, true)) (h3 : Ev (G n) (true, true)) : Ev (G 0) (R, true) := by
  rcases first_bad (p := eqN a b) n with h | ⟨s, s0, s1, s2, s3⟩
  · rw [hall h]
    exact scan_gen (g := G) (n := n) (fun i x y ih => h1 i _ x y (h i x y) ih) h3 0 (by omega) (by omega)
  · rw [hno ⟨s, s0, s1, s2⟩]
    exact scan_gen (g := G) (n := s) (fun i x y ih => h1 i _ x (by omega) (s3 i x y) ih) (h2 s s0 s1 s2) 0 (by omega) s0
theorem IsSameTune_spec (a b : List ByteArray) : Ev (fun k => spec_IsSameTune.f k a b) (SameP a b) := by
  have no : ∀ k, spec_IsSameTune.j0 (k + 1) a b true = some (false, false) := fun k => by
    simp [spec_IsSameTune.j0]
  unfold spec_IsSameTune.f SameP
  refine Ev.bind (beTune_ev a) ?_
  by_cases h : tuneB a = true
  · refine ev_t h (Ev.bind (beTune_ev b) ?_)
    by_cases g : tuneB b = true
    · rw [if_pos ⟨h, g⟩, g]
      refine ev_succ ?_
      simp only [spec_IsSameTune.j0, Bool.not_true]
      refine ev_f (by simp) ?_
      have x := hourP_bd h
      have y := hourP_bd g
      have lm := lcmP_mul h g
      have m := mul_bd (a := hourP a) (b := hourP b) (A := 12) (B := 12) (by omega) x.2 (by omega) y.2
      have mp := mul_pos1 x.1 y.1
      have lle := Int.le_of_dvd (by omega) lm.2.2.2.2
      have ew : wrap64 (wrap64 (4 * hourP a) * hourP b) = 4 * (hourP a * hourP b) := by
        rw [w64 (x := 4 * hourP a) (by omega) (by omega), Int.mul_assoc, w64 (by omega) (by omega)]
      have nn : ((4 * (hourP a * hourP b)).toNat : Int) = 4 * (hourP a * hourP b) := by omega
      refine same_scan (a := a) (b := b) (n := (4 * (hourP a * hourP b)).toNat) (G := fun i k => spec_IsSameTune.l0 k a b i) ?_ ?_ ?_ ?_ ?_
      · intro z
        exact allN_t (fun i i0 i1 => z i i0 (by omega))
      · rintro ⟨i, i0, i1, z⟩
        exact allN_f (fun w => z (eqN_mod h g w i i0))
      · intro i r i0 i1 z ih
        refine ev_succ ?_
        simp only [spec_IsSameTune.l0]
        refine Ev.bind (beHours_ev h) (Ev.bind (beHours_ev g) ?_)
        rw [ew]
        refine ev_t (by omega) (Ev.bind (beNotes_ev h i0 (by omega)) (Ev.bind (beNotes_ev g i0 (by omega)) (ev_t z ?_)))
        rw [w64 (by omega) (by omega)]
        exact ih
      · intro i i0 i1 z
        refine ev_succ ?_
        simp only [spec_IsSameTune.l0]
        refine Ev.bind (beHours_ev h) (Ev.bind (beHours_ev g) ?_)
        rw [ew]
        exact ev_t (by omega) (Ev.bind (beNotes_ev h i0 (by omega)) (Ev.bind (beNotes_ev g i0 (by omega)) (ev_f z (ev_now _))))
      · refine ev_succ ?_
        simp only [spec_IsSameTune.l0]
        refine Ev.bind (beHours_ev h) (Ev.bind (beHours_ev g) ?_)
        rw [ew]
        exact ev_f (by omega) (ev_now _)
    · rw [if_neg (fun z => g z.2), Bool.eq_false_iff.2 g]
      exact ev_one no
  · rw [if_neg (fun z => h z.1)]
    exact ev_f h (ev_one no)
theorem IsSameTune_impl (a b : List ByteArray) (hs : ∀ s ∈ a, s.size ≤ 1000000000) (hs' : ∀ s ∈ b, s.size ≤ 1000000000) : Ev (fun k => impl_IsSameTune.f k a b) (SameP a b) := by
  have no : ∀ k, impl_IsSameTune.j0 (k + 1) a b true = some (false, false) := fun k => by
    simp [impl_IsSameTune.j0]
  unfold impl_IsSameTune.f SameP
  refine Ev.bind (isTune_ev a hs) ?_
  by_cases h : tuneB a = true
  · refine ev_t h (Ev.bind (isTune_ev b hs') ?_)
    by_cases g : tuneB b = true
    · rw [if_pos ⟨h, g⟩, g]
      have x := hourP_bd h
      have y := hourP_bd g
      have lm := lcmP_mul h g
      have gp := gcd_pos (a := hourP a) (b := hourP b) (by omega)
      have bn := low_bdN (hourP a) (hourP b)
      have lc : Ev (fun k => impl_lcm.f k (hourP a) (hourP b)) (lcmP a b) := by
        unfold impl_lcm.f
        refine Ev.bind (gcd_ev (hourP a) (hourP b) (by omega) (by omega)) (ev_f (by omega) ?_)
        unfold lcmP at lm ⊢
        rw [low_tdiv, w64 (x := lowN (hourP a) (hourP b)) (by omega) (by omega), w64 (by omega) (by omega)]
        exact ev_now _
      refine ev_succ ?_
      simp only [impl_IsSameTune.j0, Bool.not_true]
      refine ev_f (by simp) (Ev.bind (hours_ev h) (Ev.bind (hours_ev g) (Ev.bind lc ?_)))
      rw [w64 (by omega) (by omega)]
      have nn : ((4 * lcmP a b).toNat : Int) = 4 * lcmP a b := by omega
      refine same_scan (a := a) (b := b) (n := (4 * lcmP a b).toNat) (G := fun i k => impl_IsSameTune.l0 k a b (4 * lcmP a b) i) ?_ ?_ ?_ ?_ ?_
      · intro z
        exact allN_t (fun i i0 i1 => z i i0 (by omega))
      · rintro ⟨i, i0, i1, z⟩
        exact allN_f (fun w => z (w i i0 (by omega)))
      · intro i r i0 i1 z ih
        refine ev_succ ?_
        simp only [impl_IsSameTune.l0]
        refine ev_t (by omega) (Ev.bind (notes_ev h i0 (by omega)) (Ev.bind (notes_ev g i0 (by omega)) (ev_t z ?_)))
        rw [w64 (by omega) (by omega)]
        exact ih
      · intro i i0 i1 z
        refine ev_succ ?_
        simp only [impl_IsSameTune.l0]
        exact ev_t (by omega) (Ev.bind (notes_ev h i0 (by omega)) (Ev.bind (notes_ev g i0 (by omega)) (ev_f z (ev_now _))))
      · refine ev_succ ?_
        simp only [impl_IsSameTune.l0]
        exact ev_f (by omega) (ev_now _)
    · rw [if_neg (fun z => g z.2), Bool.eq_false_iff.2 g]
      exact ev_one no
  · rw [if_neg (fun z => h z.1)]
    exact ev_f h (ev_one no)

/-! the law -/
theorem law_of {R : _} (l0 l1 : List ByteArray) (hl : l0.length + sumS l0 + (l1.length + sumS l1) ≤ 1048576) (hs : Ev (fun k => spec_IsSameTune.f k l0 l1) R) (hi : Ev (fun k => impl_IsSameTune.f k l0 l1) R) : Ev (fun k => laws_FnExactIsSameTune.f k l0 l1) true := by
  have hm0 : ∀ s ∈ l0, s.size ≤ maxLen := fun s h => by have := sumS_mem h; unfold maxLen; omega
  have hm1 : ∀ s ∈ l1, s.size ≤ maxLen := fun s h => by have := sumS_mem h; unfold maxLen; omega
  have ht0 := toStringS_ev l0 (by omega)
  have he0 := eqStringS_ev l0 (by omega)
  have ht1 := toStringS_ev l1 (by omega)
  have he1 := eqStringS_ev l1 (by omega)
  have hz := szStringS_ev (l := l0) (n := 1048576) hm0 (by unfold maxLen; omega) (by omega) (by omega)
  rw [szP_pos (by omega)] at hz
  have hz1 := szStringS_ev (l := l1) (n := 1048576 - ((l0.length : Int) + (sumS l0 : Int))) hm1 (by unfold maxLen; omega) (by omega) (by omega)
  rw [szP_pos (by omega)] at hz1
  unfold laws_FnExactIsSameTune.f
  refine Ev.bind hz (ev_f (by omega) (Ev.bind hz1 (ev_f (by omega) (Ev.bind ht0 (Ev.bind ht1 (Ev.bind hs (Ev.bind ht0 (Ev.bind ht1 (Ev.bind hi (ev_f (by simp) (ev_succ ?_)))))))))))
  simp only [laws_FnExactIsSameTune.j0]
  exact ev_f (by simp) (Ev.bind ht0 (Ev.bind he0 (ev_t rfl (Ev.bind ht1 (Ev.bind he1 (ev_t rfl (ev_now true)))))))
theorem law (l0 l1 : List ByteArray) (hn0 : l0.length ≤ maxLen) (hw0 : ∀ s ∈ l0, s.size ≤ maxLen) (hn1 : l1.length ≤ maxLen) (hw1 : ∀ s ∈ l1, s.size ≤ maxLen) : ∃ k, laws_FnExactIsSameTune.f k l0 l1 = some true := by
  refine Ev.rounds (g := fun k => laws_FnExactIsSameTune.f k l0 l1) ?_
  by_cases hl : l0.length + sumS l0 + (l1.length + sumS l1) ≤ 1048576
  · have hb0 : ∀ s ∈ l0, s.size ≤ 1000000000 := fun s h => by have := sumS_mem h; omega
    have hb1 : ∀ s ∈ l1, s.size ≤ 1000000000 := fun s h => by have := sumS_mem h; omega
    exact law_of l0 l1 hl (IsSameTune_spec _ _) (IsSameTune_impl _ _ hb0 hb1)
  · have hz := szStringS_ev (l := l0) (n := 1048576) hw0 hn0 (by omega) (by omega)
    unfold laws_FnExactIsSameTune.f
    by_cases c : l0.length + sumS l0 ≤ 1048576
    · rw [szP_pos (by omega)] at hz
      have hz1 := szStringS_ev (l := l1) (n := 1048576 - ((l0.length : Int) + (sumS l0 : Int))) hw1 hn1 (by omega) (by omega)
      rw [szP_neg (by omega)] at hz1
      exact Ev.bind hz (ev_f (by omega) (Ev.bind hz1 (ev_t (by omega) (ev_now true))))
    · rw [szP_neg (by omega)] at hz
      exact Ev.bind hz (ev_t (by omega) (ev_now true))

end Go.Proofs.Ytmhnbjoepgdiaaa.Pure.FnExactIsSameTuneWay
