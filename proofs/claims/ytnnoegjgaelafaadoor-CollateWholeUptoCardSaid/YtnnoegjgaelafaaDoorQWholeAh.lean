/- What numeral's scanners answer: blanks, begins, exponent. Pure, over the printed functions. -/
import Derived.Test.YtnnoegjgaelafaaDoorQWholeAf
import Derived.Test.YtnnoegjgaelafaaDoorQWholeAb
import Derived.Test.YtnnoegjgaelafaaDoorQWholeAg
namespace Go.Proofs.YtnnoegjgaelafaaDoor.Nu
open Go.RowKit Go.Proofs.YtnnoegjgaelafaaDoorW.PrintWords Go.Proofs.YtnnoegjgaelafaaDoorW.PrintLast Go.Proofs.YtnnoegjgaelafaaDoorW.PrintMore
set_option linter.unusedVariables false
set_option linter.unusedSimpArgs false

theorem wr_id {x : Int} (h0 : -140737488351240 ≤ x) (h1 : x ≤ 140737488351240) : wrap64 x = x := by unfold wrap64; omega
theorem dg_bt (s : ByteArray) (k : Nat) (h : k < s.size) : dgI (bt s (k : Int)) = dgI ((s[k].toNat : Nat) : Int) := by rw [bt_nat s k h]
theorem digit_f (c : Int) : numeral_digit.f c = some (dgI c) := by
  unfold numeral_digit.f dgI
  by_cases h : c ≥ 48
  · rw [if_pos h, decide_eq_true (show 48 ≤ c from h)]; rfl
  · rw [if_neg h, decide_eq_false (show ¬ 48 ≤ c from h)]; rfl
theorem bt_rng (s : ByteArray) (k : Nat) (h : k < s.size) : 0 ≤ bt s (k : Int) ∧ bt s (k : Int) < 256 := by
  rw [bt_nat s k h]; have := s[k].toNat_lt; omega

theorem blanks_ev (s : ByteArray) (hs : s.size ≤ 140737488351232) : ∀ (n i : Nat), s.size - i = n → i ≤ s.size → Ev (fun k => numeral_blanks.l0 k s (i : Int)) (skipTo s true i : Nat)
  | 0, i, hn, hi => by
    have : ¬ (i : Int) < (s.size : Int) := by omega
    rw [skipTo_end s true i (by omega)]
    exact Ev.step (f := fun _ => some (i : Int)) (fun k => by rw [numeral_blanks.l0, if_neg this]) (Ev.now _)
  | n + 1, i, hn, hi => by
    have hlt : i < s.size := by omega
    have h1 : (i : Int) < (s.size : Int) := by omega
    have h2 : (0 : Int) ≤ (i : Int) := by omega
    have hb := bt_nat s i hlt
    have ih := blanks_ev s hs n (i + 1) (by omega) (by omega)
    have hw : wrap64 ((i : Int) + 1) = ((i + 1 : Nat) : Int) := by rw [wr_id (by omega) (by omega)]; rfl
    by_cases c1 : bt s (i : Int) = 32
    · rw [skipTo_go s true i hlt (by unfold isB blank; rw [c1]; rfl)]
      exact Ev.step (f := fun k => numeral_blanks.l0 k s ((i + 1 : Nat) : Int)) (fun k => by rw [numeral_blanks.l0, if_pos h1, if_pos h2, if_pos c1, hw]) ih
    · by_cases c2 : bt s (i : Int) = 9
      · rw [skipTo_go s true i hlt (by unfold isB blank; rw [c2]; rfl)]
        exact Ev.step (f := fun k => numeral_blanks.l0 k s ((i + 1 : Nat) : Int)) (fun k => by rw [numeral_blanks.l0, if_pos h1, if_pos h2, if_neg c1, if_pos c2, hw]) ih
      · rw [skipTo_stop s true i hlt (by unfold isB blank; rw [beq_eq_false_iff_ne.mpr c1, beq_eq_false_iff_ne.mpr c2]; decide)]
        exact Ev.step (f := fun _ => some (i : Int)) (fun k => by rw [numeral_blanks.l0, if_pos h1, if_pos h2, if_neg c1, if_neg c2]) (Ev.now _)
def bl0 (s : ByteArray) : Nat := skipTo s true 0
theorem bl0_le (s : ByteArray) : bl0 s ≤ s.size := skip_le s true 0 (Nat.zero_le _)
theorem blanks_f (s : ByteArray) (hs : s.size ≤ 140737488351232) : Ev (fun k => numeral_blanks.f k s) (bl0 s : Int) := blanks_ev s hs _ 0 rfl (Nat.zero_le _)

/-- From place k on: the word's bytes, in small or great letters. -/
def begR (s : ByteArray) (i : Nat) (w : ByteArray) : Nat → Nat → Bool
  | 0, _ => true
  | n + 1, k => (bits .or .u8 (bt s ((i + k : Nat) : Int)) 32 == bt w (k : Int)) && decide (65 ≤ bt s ((i + k : Nat) : Int)) && begR s i w n (k + 1)
def begB (s : ByteArray) (i : Nat) (w : ByteArray) : Bool := decide (i + w.size ≤ s.size) && begR s i w w.size 0
theorem begins_ev (s : ByteArray) (hs : s.size ≤ 140737488351232) (i : Nat) (w : ByteArray) (hw : i + w.size ≤ s.size) : ∀ (n k : Nat), w.size - k = n → k ≤ w.size → Ev (fun q => numeral_begins.l0 q s (i : Int) w (w.size : Int) (k : Int)) (begR s i w n k)
  | 0, k, hn, hk => Ev.step (f := fun _ => some true) (fun q => by rw [numeral_begins.l0, if_neg (by omega)]) (Ev.now _)
  | n + 1, k, hn, hk => by
    have ih := begins_ev s hs i w hw n (k + 1) (by omega) (by omega)
    have e1 : wrap64 ((i : Int) + (k : Int)) = ((i + k : Nat) : Int) := by rw [wr_id (by omega) (by omega)]; rfl
    have e2 : wrap64 ((k : Int) + 1) = ((k + 1 : Nat) : Int) := by rw [wr_id (by omega) (by omega)]; rfl
    have h1 : (k : Int) < (w.size : Int) := by omega
    have h2 : (0 : Int) ≤ ((i + k : Nat) : Int) := by omega
    have h3 : ((i + k : Nat) : Int) < (s.size : Int) := by omega
    have h4 : (0 : Int) ≤ (k : Int) := by omega
    unfold begR
    by_cases c1 : bits .or .u8 (bt s ((i + k : Nat) : Int)) 32 = bt w (k : Int)
    · rw [beq_iff_eq.mpr c1]
      by_cases c2 : bt s ((i + k : Nat) : Int) < 65
      · rw [decide_eq_false (show ¬ 65 ≤ bt s ((i + k : Nat) : Int) by omega)]
        exact Ev.step (f := fun _ => some false) (fun q => by rw [numeral_begins.l0, if_pos h1, e1, if_pos h2, if_pos h3, if_pos h4, if_pos h1, if_pos c1, if_pos c2]) (Ev.now _)
      · rw [decide_eq_true (show 65 ≤ bt s ((i + k : Nat) : Int) by omega)]
        exact Ev.step (f := fun q => numeral_begins.l0 q s (i : Int) w (w.size : Int) ((k + 1 : Nat) : Int)) (fun q => by rw [numeral_begins.l0, if_pos h1, e1, if_pos h2, if_pos h3, if_pos h4, if_pos h1, if_pos c1, if_neg c2, e2]) ih
    · rw [beq_eq_false_iff_ne.mpr c1]
      exact Ev.step (f := fun _ => some false) (fun q => by rw [numeral_begins.l0, if_pos h1, e1, if_pos h2, if_pos h3, if_pos h4, if_pos h1, if_neg c1]) (Ev.now _)
theorem begins_f (s : ByteArray) (hs : s.size ≤ 140737488351232) (i : Nat) (hi : i ≤ s.size) (w : ByteArray) (hw : w.size ≤ 100) : Ev (fun k => numeral_begins.f k s (i : Int) w) (begB s i w) := by
  have e : wrap64 ((s.size : Int) - (i : Int)) = ((s.size - i : Nat) : Int) := by rw [wr_id (by omega) (by omega)]; omega
  unfold begB
  by_cases c : i + w.size ≤ s.size
  · rw [decide_eq_true c]
    exact Ev.congr (fun k => by unfold numeral_begins.f; rw [e, if_neg (by omega)]; rfl) (begins_ev s hs i w c _ 0 rfl (Nat.zero_le _))
  · rw [decide_eq_false c]
    exact Ev.congr (f := fun _ => some false) (fun k => by unfold numeral_begins.f; rw [e, if_pos (by omega)]) (Ev.now _)

/-- The number that the digits from i on say, from n on; 2^40 at most. -/
def expN (s : ByteArray) (i : Nat) (n : Int) : Int := if h : i < s.size then if dgI (bt s (i : Int)) then expN s (i + 1) (min (n * 10 + (bt s (i : Int) - 48)) 1099511627776) else n else n
termination_by s.size - i
theorem expN_go (s : ByteArray) (i : Nat) (n : Int) (h : i < s.size) (hb : dgI (bt s (i : Int)) = true) : expN s i n = expN s (i + 1) (min (n * 10 + (bt s (i : Int) - 48)) 1099511627776) := by rw [expN, dif_pos h, if_pos hb]
theorem expN_stop (s : ByteArray) (i : Nat) (n : Int) (h : i < s.size) (hb : dgI (bt s (i : Int)) = false) : expN s i n = n := by rw [expN, dif_pos h, if_neg (by rw [hb]; decide)]
theorem expN_end (s : ByteArray) (i : Nat) (n : Int) (h : ¬ i < s.size) : expN s i n = n := by rw [expN, dif_neg h]
theorem dg_rng {c : Int} (h : dgI c = true) : 48 ≤ c ∧ c ≤ 57 := by unfold dgI at h; simp at h; exact h
theorem expN_rng (s : ByteArray) : ∀ (m i : Nat) (n : Int), s.size - i = m → 0 ≤ n ∧ n ≤ 1099511627776 → 0 ≤ expN s i n ∧ expN s i n ≤ 1099511627776
  | 0, i, n, hm, hn => by rw [expN_end s i n (by omega)]; exact hn
  | m + 1, i, n, hm, hn => by
    have hlt : i < s.size := by omega
    cases hb : dgI (bt s (i : Int))
    · rw [expN_stop s i n hlt hb]; exact hn
    · have hr := dg_rng hb
      rw [expN_go s i n hlt hb]
      exact expN_rng s m (i + 1) _ (by omega) (by omega)
theorem expL_ev (s : ByteArray) (hs : s.size ≤ 140737488351232) (sg : Int) (hsg : sg = 1 ∨ sg = -1) : ∀ (m i : Nat) (e : Int) (n : Int), s.size - i = m → i ≤ s.size → 0 ≤ n ∧ n ≤ 1099511627776 →
    Ev (fun k => numeral_exponent.l0 k s (i : Int) e sg n) (sg * expN s i n, if runTo s i = i then e else (runTo s i : Int))
  | 0, i, e, n, hm, hi, hn => by
    rw [expN_end s i n (by omega), run_end s i (by omega), if_pos rfl]
    have hw : wrap64 (sg * n) = sg * n := by rcases hsg with rfl | rfl <;> rw [wr_id (by omega) (by omega)]
    exact Ev.step (f := fun _ => some (sg * n, e)) (fun k => by rw [numeral_exponent.l0, if_neg (by omega), hw]) (Ev.now _)
  | m + 1, i, e, n, hm, hi, hn => by
    have hlt : i < s.size := by omega
    have h1 : (i : Int) < (s.size : Int) := by omega
    have h2 : (0 : Int) ≤ (i : Int) := by omega
    have hd := dg_bt s i hlt
    cases hb : dgI (bt s (i : Int))
    · rw [expN_stop s i n hlt hb, run_stop s i hlt (hd.symm.trans hb), if_pos rfl]
      have hw : wrap64 (sg * n) = sg * n := by rcases hsg with rfl | rfl <;> rw [wr_id (by omega) (by omega)]
      exact Ev.step (f := fun _ => some (sg * n, e)) (fun k => by rw [numeral_exponent.l0, if_pos h1, if_pos h2, digit_f, hb]; simp only [Option.bind_some]; rw [if_neg (by decide), hw]) (Ev.now _)
    · have hr := dg_rng hb
      rw [expN_go s i n hlt hb, run_go s i hlt (hd.symm.trans hb)]
      have hge := run_ge s (i + 1) (by omega)
      rw [if_neg (by omega)]
      have hw1 : wrap64 ((i : Int) + 1) = ((i + 1 : Nat) : Int) := by rw [wr_id (by omega) (by omega)]; rfl
      have hm1 : (bt s (i : Int) - 48) % 256 = bt s (i : Int) - 48 := by omega
      have hw2 : wrap64 (n * 10) = n * 10 := wr_id (by omega) (by omega)
      have hw3 : wrap64 (n * 10 + (bt s (i : Int) - 48)) = n * 10 + (bt s (i : Int) - 48) := wr_id (by omega) (by omega)
      have hmn : mn (n * 10 + (bt s (i : Int) - 48)) 1099511627776 = min (n * 10 + (bt s (i : Int) - 48)) 1099511627776 := by unfold mn; omega
      have ih := expL_ev s hs sg hsg m (i + 1) ((i + 1 : Nat) : Int) (min (n * 10 + (bt s (i : Int) - 48)) 1099511627776) (by omega) (by omega) (by omega)
      have e2 : (if runTo s (i + 1) = i + 1 then ((i + 1 : Nat) : Int) else (runTo s (i + 1) : Int)) = (runTo s (i + 1) : Int) := by split <;> omega
      rw [e2] at ih
      exact Ev.step (f := fun k => numeral_exponent.l0 k s ((i + 1 : Nat) : Int) ((i + 1 : Nat) : Int) sg (min (n * 10 + (bt s (i : Int) - 48)) 1099511627776)) (fun k => by
        rw [numeral_exponent.l0, if_pos h1, if_pos h2, digit_f, hb]; simp only [Option.bind_some, if_true]; rw [hw1, hm1, hw2, hw3, hmn]) ih
def atB (s : ByteArray) (i : Nat) (c : Int) : Bool := if i < s.size then bt s (i : Int) == c else false
/-- The sign at place i, and the place behind it. -/
def expS (s : ByteArray) (i : Nat) : Int × Nat := if atB s i 45 then (-1, i + 1) else if atB s i 43 then (1, i + 1) else (1, i)
/-- What exponent says from place i on: the number, the place behind it. -/
def expF (s : ByteArray) (i : Nat) : Int × Int :=
  if i < s.size ∧ bits .or .u8 (bt s (i : Int)) 32 = 101 then ((expS s (i + 1)).1 * expN s (expS s (i + 1)).2 0, if runTo s (expS s (i + 1)).2 = (expS s (i + 1)).2 then (i : Int) else (runTo s (expS s (i + 1)).2 : Int)) else (0, (i : Int))
theorem atB_lt {s : ByteArray} {i : Nat} {c : Int} (h : atB s i c = true) : i < s.size := by
  unfold atB at h; by_cases hi : i < s.size
  · exact hi
  · rw [if_neg hi] at h; exact absurd h (by decide)
theorem expS_le (s : ByteArray) (i : Nat) (hi : i ≤ s.size) : i ≤ (expS s i).2 ∧ (expS s i).2 ≤ s.size := by
  unfold expS
  by_cases h1 : atB s i 45 = true
  · rw [if_pos h1]; have := atB_lt h1; simp only; omega
  · rw [if_neg h1]
    by_cases h2 : atB s i 43 = true
    · rw [if_pos h2]; have := atB_lt h2; simp only; omega
    · rw [if_neg h2]; exact ⟨Nat.le_refl _, hi⟩
theorem exp_j1_no (s : ByteArray) (hs : s.size ≤ 140737488351232) (e : Int) (i : Nat) (hi : i ≤ s.size) :
    Ev (fun k => numeral_exponent.j1 k s (i : Int) e 1 false) (1 * expN s i 0, if runTo s i = i then e else (runTo s i : Int)) :=
  Ev.step (f := fun k => numeral_exponent.j2 k s (i : Int) e 1) (fun k => by rw [numeral_exponent.j1, if_neg (by decide)])
    (Ev.step (f := fun k => numeral_exponent.l0 k s (i : Int) e 1 0) (fun k => by rw [numeral_exponent.j2]) (expL_ev s hs 1 (.inl rfl) _ i e 0 rfl hi (by omega)))
theorem exp_f (s : ByteArray) (hs : s.size ≤ 140737488351232) (i : Nat) (hi : i ≤ s.size) : Ev (fun k => numeral_exponent.f k s (i : Int)) (expF s i) := by
  by_cases c0 : i = s.size
  · have e : expF s i = (0, (i : Int)) := by unfold expF; rw [if_neg (by omega)]
    rw [e]
    have c0' : (i : Int) = (s.size : Int) := by omega
    exact Ev.congr (f := fun k => numeral_exponent.j0 k s (i : Int) (i : Int) true) (fun k => by unfold numeral_exponent.f; rw [if_pos c0'])
      (Ev.step (f := fun _ => some (0, (i : Int))) (fun k => by rw [numeral_exponent.j0, if_pos rfl]) (Ev.now _))
  · have hlt : i < s.size := by omega
    have h1 : (i : Int) < (s.size : Int) := by omega
    have h2 : (0 : Int) ≤ (i : Int) := by omega
    have c0' : ¬ (i : Int) = (s.size : Int) := by omega
    by_cases c1 : bits .or .u8 (bt s (i : Int)) 32 = 101
    · have e : expF s i = ((expS s (i + 1)).1 * expN s (expS s (i + 1)).2 0, if runTo s (expS s (i + 1)).2 = (expS s (i + 1)).2 then (i : Int) else (runTo s (expS s (i + 1)).2 : Int)) := by unfold expF; rw [if_pos ⟨hlt, c1⟩]
      rw [e]
      have c1' : (bits .or .u8 (bt s (i : Int)) 32 != 101) = false := bne_eq_false_iff_eq.mpr c1
      have hw : wrap64 ((i : Int) + 1) = ((i + 1 : Nat) : Int) := by rw [wr_id (by omega) (by omega)]; rfl
      refine Ev.congr (f := fun k => numeral_exponent.j0 k s (i : Int) (i : Int) false) (fun k => by unfold numeral_exponent.f; rw [if_neg c0', if_pos h2, if_pos h1, c1']) ?_
      by_cases c2 : i + 1 < s.size
      · have h3 : ((i + 1 : Nat) : Int) < (s.size : Int) := by omega
        have h4 : (0 : Int) ≤ ((i + 1 : Nat) : Int) := by omega
        have hw2 : wrap64 (((i + 1 : Nat) : Int) + 1) = ((i + 1 + 1 : Nat) : Int) := by rw [wr_id (by omega) (by omega)]; rfl
        by_cases c3 : bt s ((i + 1 : Nat) : Int) = 45
        · have es : expS s (i + 1) = (-1, i + 1 + 1) := by unfold expS atB; rw [if_pos c2, beq_iff_eq.mpr c3]; rfl
          rw [es]
          exact Ev.step (f := fun k => numeral_exponent.j1 k s ((i + 1 : Nat) : Int) (i : Int) 1 true) (fun k => by rw [numeral_exponent.j0, if_neg (by decide), hw, if_pos h3, if_pos h4, if_pos c3])
            (Ev.step (f := fun k => numeral_exponent.j2 k s ((i + 1 + 1 : Nat) : Int) (i : Int) (-1)) (fun k => by rw [numeral_exponent.j1, if_pos rfl, if_pos h4, if_pos h3, if_pos c3, hw2])
              (Ev.step (f := fun k => numeral_exponent.l0 k s ((i + 1 + 1 : Nat) : Int) (i : Int) (-1) 0) (fun k => by rw [numeral_exponent.j2]) (expL_ev s hs (-1) (.inr rfl) _ (i + 1 + 1) (i : Int) 0 rfl (by omega) (by omega))))
        · by_cases c4 : bt s ((i + 1 : Nat) : Int) = 43
          · have es : expS s (i + 1) = (1, i + 1 + 1) := by unfold expS atB; rw [if_pos c2, beq_eq_false_iff_ne.mpr c3, beq_iff_eq.mpr c4, if_pos c2]; rfl
            rw [es]
            exact Ev.step (f := fun k => numeral_exponent.j1 k s ((i + 1 : Nat) : Int) (i : Int) 1 true) (fun k => by rw [numeral_exponent.j0, if_neg (by decide), hw, if_pos h3, if_pos h4, if_neg c3, beq_iff_eq.mpr c4])
              (Ev.step (f := fun k => numeral_exponent.j2 k s ((i + 1 + 1 : Nat) : Int) (i : Int) 1) (fun k => by rw [numeral_exponent.j1, if_pos rfl, if_pos h4, if_pos h3, if_neg c3, hw2])
                (Ev.step (f := fun k => numeral_exponent.l0 k s ((i + 1 + 1 : Nat) : Int) (i : Int) 1 0) (fun k => by rw [numeral_exponent.j2]) (expL_ev s hs 1 (.inl rfl) _ (i + 1 + 1) (i : Int) 0 rfl (by omega) (by omega))))
          · have es : expS s (i + 1) = (1, i + 1) := by unfold expS atB; rw [if_pos c2, beq_eq_false_iff_ne.mpr c3, if_pos c2, beq_eq_false_iff_ne.mpr c4]; rfl
            rw [es]
            exact Ev.step (f := fun k => numeral_exponent.j1 k s ((i + 1 : Nat) : Int) (i : Int) 1 false) (fun k => by rw [numeral_exponent.j0, if_neg (by decide), hw, if_pos h3, if_pos h4, if_neg c3, beq_eq_false_iff_ne.mpr c4]) (exp_j1_no s hs _ (i + 1) (by omega))
      · have es : expS s (i + 1) = (1, i + 1) := by unfold expS atB; rw [if_neg c2, if_neg c2]; rfl
        rw [es]
        exact Ev.step (f := fun k => numeral_exponent.j1 k s ((i + 1 : Nat) : Int) (i : Int) 1 false) (fun k => by rw [numeral_exponent.j0, if_neg (by decide), hw, if_neg (by omega)]) (exp_j1_no s hs _ (i + 1) (by omega))
    · have e : expF s i = (0, (i : Int)) := by unfold expF; rw [if_neg (fun h => c1 h.2)]
      rw [e]
      have c1' : (bits .or .u8 (bt s (i : Int)) 32 != 101) = true := bne_iff_ne.mpr c1
      exact Ev.congr (f := fun k => numeral_exponent.j0 k s (i : Int) (i : Int) true) (fun k => by unfold numeral_exponent.f; rw [if_neg c0', if_pos h2, if_pos h1, c1'])
        (Ev.step (f := fun _ => some (0, (i : Int))) (fun k => by rw [numeral_exponent.j0, if_pos rfl]) (Ev.now _))
theorem expF_rng (s : ByteArray) (i : Nat) (hi : i ≤ s.size) : -1099511627776 ≤ (expF s i).1 ∧ (expF s i).1 ≤ 1099511627776 ∧ (i : Int) ≤ (expF s i).2 ∧ (expF s i).2 ≤ (s.size : Int) := by
  unfold expF
  by_cases c : i < s.size ∧ bits .or .u8 (bt s (i : Int)) 32 = 101
  · rw [if_pos c]
    have hs := expS_le s (i + 1) (by omega)
    have hr := expN_rng s _ (expS s (i + 1)).2 0 rfl (by omega)
    have h1 := run_ge s (expS s (i + 1)).2 hs.2
    have h2 := run_le s (expS s (i + 1)).2 hs.2
    have hsg : (expS s (i + 1)).1 = 1 ∨ (expS s (i + 1)).1 = -1 := by unfold expS; split; exact .inr rfl; split <;> exact .inl rfl
    simp only
    generalize expN s (expS s (i + 1)).2 0 = n at *
    rcases hsg with e | e <;> rw [e] <;> (refine ⟨by omega, by omega, ?_, ?_⟩ <;> split <;> omega)
  · rw [if_neg c]; simp only; omega
end Go.Proofs.YtnnoegjgaelafaaDoor.Nu
