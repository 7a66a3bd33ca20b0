/- What numeral's Compare answers, of every kind. Pure, over the printed functions. -/
import Derived.Test.YtnnoegjgaelafaaDoorQWholeAj
import Derived.Test.YtnnoegjgaelafaaDoorQWholeAi
import Derived.Test.YtnnoegjgaelafaaDoorQWholeAs
namespace Go.Proofs.YtnnoegjgaelafaaDoor.Nu
open Go.RowKit Go.Proofs.YtnnoegjgaelafaaDoorW.PrintWords Go.Proofs.YtnnoegjgaelafaaDoorW.PrintLast Go.Proofs.YtnnoegjgaelafaaDoorW.PrintMore
open Go.Proofs.YtnnoegjgaelafaaDoor.Pr (ordL or3 wordL word_more wordW vN vR vD vM isDg hdR runL one0 versL versW vers_nil sgn cmpI_zero cmpI_self vM_len)
set_option linter.unusedVariables false
set_option linter.unusedSimpArgs false

def rkU (c : UInt8) : Int := rankI ((c.toNat : Nat) : Int)
theorem size_len (s : ByteArray) : s.data.toList.length = s.size := by rw [Array.length_toList]; rfl
theorem drop_at (s : ByteArray) (i : Nat) (h : i < s.size) : s.data.toList.drop i = s[i] :: s.data.toList.drop (i + 1) := by
  rw [List.drop_eq_getElem_cons (by rw [size_len]; exact h)]; rfl
theorem drop_end (s : ByteArray) (i : Nat) (h : ¬ i < s.size) : s.data.toList.drop i = [] := List.drop_of_length_le (by rw [size_len]; omega)
theorem ba_ext {a b : ByteArray} (h : a.data.toList = b.data.toList) : a = b := ByteArray.ext (Array.toList_inj.1 h)
theorem nil_iff (s : ByteArray) : s.toList = [] ↔ s.data.toList = [] := by rw [toList_data]

theorem byte_f (x y : Int) : cmp_Compare_byte.f x y = some (Lib.compareInt x y) := by
  unfold cmp_Compare_byte.f cmp_isNaN_byte.f
  have hx : (x != x) = false := bne_eq_false_iff_eq.mpr rfl
  have hy : (y != y) = false := bne_eq_false_iff_eq.mpr rfl
  rw [hx, hy]
  simp only [Option.bind_some]
  rw [if_neg (by decide), if_neg (by decide)]
  unfold Lib.compareInt
  split
  · rfl
  · split <;> rfl
theorem rank_f (s : ByteArray) (i : Nat) (h : i < s.size) : numeral_rank.f (bt s (i : Int)) = some (rkU s[i]) := by
  unfold numeral_rank.f
  have hr := bt_rng s i h
  rw [if_pos hr, bt_nat s i h]; rfl
theorem words_ev (a b : ByteArray) (ha : a.size ≤ 140737488351232) (hb : b.size ≤ 140737488351232) (m : Nat) (hm : m = max a.size b.size) : ∀ (n i : Nat), m - i = n → i ≤ m →
    Ev (fun k => numeral_words.l0 k a b (m : Int) (i : Int)) (wordL rkU n (a.data.toList.drop i) (b.data.toList.drop i))
  | 0, i, hn, hi => Ev.step (f := fun _ => some 0) (fun k => by rw [numeral_words.l0, if_neg (by omega)]) (Ev.now _)
  | n + 1, i, hn, hi => by
    have ih := words_ev a b ha hb m hm n (i + 1) (by omega) (by omega)
    have h1 : (i : Int) < (m : Int) := by omega
    have h0 : (0 : Int) ≤ (i : Int) := by omega
    have hw : wrap64 ((i : Int) + 1) = ((i + 1 : Nat) : Int) := by rw [wr_id (by omega) (by omega)]; rfl
    have hta : (a.data.toList.drop i).tail = a.data.toList.drop (i + 1) := by rw [List.tail_drop]
    have htb : (b.data.toList.drop i).tail = b.data.toList.drop (i + 1) := by rw [List.tail_drop]
    rw [wordL, hta, htb]
    -- the second half, whatever the first rank is
    have j1 : ∀ x : Int, Ev (fun k => numeral_words.j1 k a b (i : Int) x 2 (m : Int) (i : Int)) (if Lib.compareInt x (hdR rkU (b.data.toList.drop i)) = 0 then wordL rkU n (a.data.toList.drop (i + 1)) (b.data.toList.drop (i + 1)) else Lib.compareInt x (hdR rkU (b.data.toList.drop i))) := by
      intro x
      by_cases c2 : i < b.size
      · have c2' : (i : Int) < (b.size : Int) := by omega
        rw [drop_at b i c2]
        show Ev _ (if Lib.compareInt x (rkU b[i]) = 0 then _ else Lib.compareInt x (rkU b[i]))
        by_cases e : x = rkU b[i]
        · rw [if_pos ((cmpI_zero _ _).2 e)]
          exact Ev.step (f := fun k => numeral_words.l0 k a b (m : Int) ((i + 1 : Nat) : Int)) (fun k => by rw [numeral_words.j1, if_pos c2', if_pos h0, rank_f b i c2]; simp only [Option.bind_some]; rw [if_pos e, hw]) ih
        · rw [if_neg (fun h => e ((cmpI_zero _ _).1 h))]
          exact Ev.step (f := fun _ => some (Lib.compareInt x (rkU b[i]))) (fun k => by rw [numeral_words.j1, if_pos c2', if_pos h0, rank_f b i c2]; simp only [Option.bind_some]; rw [if_neg e, byte_f]; rfl) (Ev.now _)
      · have c2' : ¬ (i : Int) < (b.size : Int) := by omega
        rw [drop_end b i c2]
        show Ev _ (if Lib.compareInt x 2 = 0 then _ else Lib.compareInt x 2)
        by_cases e : x = 2
        · rw [if_pos ((cmpI_zero _ _).2 e)]
          exact Ev.step (f := fun k => numeral_words.l0 k a b (m : Int) ((i + 1 : Nat) : Int)) (fun k => by rw [numeral_words.j1, if_neg c2', if_pos e, hw]) ih
        · rw [if_neg (fun h => e ((cmpI_zero _ _).1 h))]
          exact Ev.step (f := fun _ => some (Lib.compareInt x 2)) (fun k => by rw [numeral_words.j1, if_neg c2', if_neg e, byte_f]; rfl) (Ev.now _)
    by_cases c1 : i < a.size
    · have c1' : (i : Int) < (a.size : Int) := by omega
      rw [show hdR rkU (a.data.toList.drop i) = rkU a[i] by rw [drop_at a i c1]; rfl]
      exact Ev.step (f := fun k => numeral_words.j1 k a b (i : Int) (rkU a[i]) 2 (m : Int) (i : Int)) (fun k => by rw [numeral_words.l0, if_pos h1, if_pos c1', if_pos h0, rank_f a i c1]; rfl) (j1 (rkU a[i]))
    · have c1' : ¬ (i : Int) < (a.size : Int) := by omega
      rw [show hdR rkU (a.data.toList.drop i) = 2 by rw [drop_end a i c1]; rfl]
      exact Ev.step (f := fun k => numeral_words.j1 k a b (i : Int) 2 2 (m : Int) (i : Int)) (fun k => by rw [numeral_words.l0, if_pos h1, if_neg c1']) (j1 2)
theorem words_f (a b : ByteArray) (ha : a.size ≤ 140737488351232) (hb : b.size ≤ 140737488351232) : Ev (fun k => numeral_words.f k a b) (wordW rkU a.data.toList b.data.toList) := by
  have h := words_ev a b ha hb (max a.size b.size) rfl _ 0 rfl (Nat.zero_le _)
  have hm : mx (a.size : Int) (b.size : Int) = ((max a.size b.size : Nat) : Int) := by unfold mx; omega
  have e : wordW rkU a.data.toList b.data.toList = wordL rkU (max a.size b.size - 0) (a.data.toList.drop 0) (b.data.toList.drop 0) := by
    unfold wordW
    rw [List.drop_zero, List.drop_zero, Nat.sub_zero, size_len, size_len]
    exact word_more rkU (max a.size b.size) (a.size + b.size) _ _ (by rw [size_len]; omega) (by rw [size_len]; omega) (by omega)
  rw [e]
  exact Ev.congr (fun k => by unfold numeral_words.f; rw [hm]; rfl) h

theorem isDg_dgI (c : UInt8) : isDg c = dgI ((c.toNat : Nat) : Int) := by
  unfold isDg dgI
  rw [Bool.eq_iff_iff]; simp; omega
def nN (s : ByteArray) (i : Nat) : Nat := i + ((s.data.toList.drop i).takeWhile (fun c => !isDg c)).length
def nD (s : ByteArray) (i : Nat) : Nat := i + ((s.data.toList.drop i).takeWhile isDg).length
theorem nN_go (s : ByteArray) (i : Nat) (h : i < s.size) (hb : dgI (bt s (i : Int)) = false) : nN s i = nN s (i + 1) := by
  unfold nN
  rw [drop_at s i h, List.takeWhile_cons, if_pos (by rw [isDg_dgI, ← bt_nat s i h, hb]; rfl), List.length_cons]; omega
theorem nN_stop (s : ByteArray) (i : Nat) (h : i < s.size) (hb : dgI (bt s (i : Int)) = true) : nN s i = i := by
  unfold nN
  rw [drop_at s i h, List.takeWhile_cons, if_neg (by rw [isDg_dgI, ← bt_nat s i h, hb]; decide)]; rfl
theorem nN_end (s : ByteArray) (i : Nat) (h : ¬ i < s.size) : nN s i = i := by unfold nN; rw [drop_end s i h]; rfl
theorem nD_go (s : ByteArray) (i : Nat) (h : i < s.size) (hb : dgI (bt s (i : Int)) = true) : nD s i = nD s (i + 1) := by
  unfold nD
  rw [drop_at s i h, List.takeWhile_cons, if_pos (by rw [isDg_dgI, ← bt_nat s i h, hb]), List.length_cons]; omega
theorem nD_stop (s : ByteArray) (i : Nat) (h : i < s.size) (hb : dgI (bt s (i : Int)) = false) : nD s i = i := by
  unfold nD
  rw [drop_at s i h, List.takeWhile_cons, if_neg (by rw [isDg_dgI, ← bt_nat s i h, hb]; decide)]; rfl
theorem nD_end (s : ByteArray) (i : Nat) (h : ¬ i < s.size) : nD s i = i := by unfold nD; rw [drop_end s i h]; rfl
theorem pair_l1 (s : ByteArray) (hs : s.size ≤ 140737488351232) (p : Nat) : ∀ (n i : Nat), s.size - i = n → i ≤ s.size → p ≤ i →
    Ev (fun k => numeral_pair.l1 k s (p : Int) (i : Int)) (s.extract 0 p, s.extract p (nD s i), s.extract (nD s i) s.size)
  | 0, i, hn, hi, hp => by
    rw [nD_end s i (by omega)]
    exact Ev.step (f := fun _ => some (s.extract 0 p, s.extract p i, s.extract i s.size)) (fun k => by rw [numeral_pair.l1, if_neg (by omega), if_pos (by omega), if_pos (by omega), if_pos (by omega), if_pos (by omega), if_pos (by omega)]; rfl) (Ev.now _)
  | n + 1, i, hn, hi, hp => by
    have hlt : i < s.size := by omega
    have hw : wrap64 ((i : Int) + 1) = ((i + 1 : Nat) : Int) := by rw [wr_id (by omega) (by omega)]; rfl
    cases hb : dgI (bt s (i : Int))
    · rw [nD_stop s i hlt hb]
      exact Ev.step (f := fun _ => some (s.extract 0 p, s.extract p i, s.extract i s.size)) (fun k => by rw [numeral_pair.l1, if_pos (by omega), if_pos (by omega), digit_f, hb]; simp only [Option.bind_some]; rw [if_neg (by decide), if_pos (by omega), if_pos (by omega), if_pos (by omega), if_pos (by omega)]; rfl) (Ev.now _)
    · rw [nD_go s i hlt hb]
      exact Ev.step (f := fun k => numeral_pair.l1 k s (p : Int) ((i + 1 : Nat) : Int)) (fun k => by rw [numeral_pair.l1, if_pos (by omega), if_pos (by omega), digit_f, hb]; simp only [Option.bind_some, if_true]; rw [hw]) (pair_l1 s hs p n (i + 1) (by omega) (by omega) (by omega))
theorem pair_l0 (s : ByteArray) (hs : s.size ≤ 140737488351232) : ∀ (n i : Nat), s.size - i = n → i ≤ s.size →
    Ev (fun k => numeral_pair.l0 k s (i : Int)) (s.extract 0 (nN s i), s.extract (nN s i) (nD s (nN s i)), s.extract (nD s (nN s i)) s.size)
  | 0, i, hn, hi => by
    rw [nN_end s i (by omega)]
    exact Ev.step (f := fun k => numeral_pair.j1 k s (i : Int)) (fun k => by rw [numeral_pair.l0, if_neg (by omega)]) (Ev.step (f := fun k => numeral_pair.l1 k s (i : Int) (i : Int)) (fun k => by rw [numeral_pair.j1]) (pair_l1 s hs i _ i rfl hi (Nat.le_refl _)))
  | n + 1, i, hn, hi => by
    have hlt : i < s.size := by omega
    have hw : wrap64 ((i : Int) + 1) = ((i + 1 : Nat) : Int) := by rw [wr_id (by omega) (by omega)]; rfl
    cases hb : dgI (bt s (i : Int))
    · rw [nN_go s i hlt hb]
      exact Ev.step (f := fun k => numeral_pair.l0 k s ((i + 1 : Nat) : Int)) (fun k => by rw [numeral_pair.l0, if_pos (by omega), if_pos (by omega), digit_f, hb]; simp only [Option.bind_some]; rw [if_neg (by decide), hw]) (pair_l0 s hs n (i + 1) (by omega) (by omega))
    · rw [nN_stop s i hlt hb]
      exact Ev.step (f := fun k => numeral_pair.j1 k s (i : Int)) (fun k => by rw [numeral_pair.l0, if_pos (by omega), if_pos (by omega), digit_f, hb]; simp only [Option.bind_some, if_true]) (Ev.step (f := fun k => numeral_pair.l1 k s (i : Int) (i : Int)) (fun k => by rw [numeral_pair.j1]) (pair_l1 s hs i _ i rfl hi (Nat.le_refl _)))
theorem take_tw {p : UInt8 → Bool} : ∀ l : List UInt8, l.take (l.takeWhile p).length = l.takeWhile p
  | [] => rfl
  | a :: l => by
    rw [List.takeWhile_cons]; split
    · rw [List.length_cons, List.take_succ_cons, take_tw l]
    · rfl
theorem drop_tw {p : UInt8 → Bool} : ∀ l : List UInt8, l.drop (l.takeWhile p).length = l.dropWhile p
  | [] => rfl
  | a :: l => by
    rw [List.takeWhile_cons, List.dropWhile_cons]; split
    · rw [List.length_cons, List.drop_succ_cons, drop_tw l]
    · rfl
theorem ext_list (s : ByteArray) (i j : Nat) : (s.extract i j).data.toList = (s.data.toList.drop i).take (j - i) := Lib.extract_data s i j
theorem pair_f (s : ByteArray) (hs : s.size ≤ 140737488351232) : Ev (fun k => numeral_pair.f k s) ((⟨(vN s.data.toList).toArray⟩ : ByteArray), (⟨(vD s.data.toList).toArray⟩ : ByteArray), (⟨(vM s.data.toList).toArray⟩ : ByteArray)) := by
  have h := pair_l0 s hs _ 0 rfl (Nat.zero_le _)
  have e0 : nN s 0 = (vN s.data.toList).length := by unfold nN vN; rw [List.drop_zero]; omega
  have er : s.data.toList.drop (nN s 0) = vR s.data.toList := by rw [e0]; unfold vN vR; exact drop_tw _
  have e1 : nD s (nN s 0) = nN s 0 + (vD s.data.toList).length := by unfold nD; rw [er]; rfl
  have a1 : s.extract 0 (nN s 0) = ⟨(vN s.data.toList).toArray⟩ := by
    apply ba_ext; rw [ext_list, List.drop_zero, Nat.sub_zero, e0]; exact take_tw _
  have a2 : s.extract (nN s 0) (nD s (nN s 0)) = ⟨(vD s.data.toList).toArray⟩ := by
    apply ba_ext; rw [ext_list, er, e1, Nat.add_sub_cancel_left]; exact take_tw _
  have a3 : s.extract (nD s (nN s 0)) s.size = ⟨(vM s.data.toList).toArray⟩ := by
    apply ba_ext
    rw [ext_list, e1, ← List.drop_drop, er]
    have : (vR s.data.toList).drop (vD s.data.toList).length = vM s.data.toList := drop_tw _
    rw [this]
    apply List.take_of_length_le
    have hl : (vM s.data.toList).length = s.data.toList.length - (nN s 0 + (vD s.data.toList).length) := by rw [← this, ← er, List.drop_drop, List.length_drop]
    rw [hl, size_len]; exact Nat.le_refl _
  rw [a1, a2, a3] at h
  exact Ev.congr (fun k => rfl) h

theorem or_l (xs : List Int) : ∀ (n i : Nat), xs.length - i = n → i ≤ xs.length → xs.length ≤ 100 → Ev (fun k => cmp_Or_int.l0 k 0 xs (xs.length : Int) (i : Int)) ((xs.drop i).foldr (fun x r => if x = 0 then r else x) 0)
  | 0, i, hn, hi, hl => by
    rw [List.drop_of_length_le (by omega)]
    exact Ev.step (f := fun _ => some 0) (fun k => by rw [cmp_Or_int.l0, if_neg (by omega)]) (Ev.now _)
  | n + 1, i, hn, hi, hl => by
    have hlt : i < xs.length := by omega
    have hw : wrap64 ((i : Int) + 1) = ((i + 1 : Nat) : Int) := by rw [wr_id (by omega) (by omega)]; rfl
    have ih := or_l xs n (i + 1) (by omega) (by omega) hl
    have hrd : rd xs (i : Int) = xs[i] := by unfold rd; rw [show (i : Int).toNat = i from rfl, List.getD_eq_getElem?_getD, List.getElem?_eq_getElem hlt]; rfl
    rw [List.drop_eq_getElem_cons hlt, List.foldr_cons]
    by_cases c : xs[i] = 0
    · rw [if_pos c]
      exact Ev.step (f := fun k => cmp_Or_int.l0 k 0 xs (xs.length : Int) ((i + 1 : Nat) : Int)) (fun k => by rw [cmp_Or_int.l0, if_pos (by omega), if_pos (by omega), if_pos (by omega), hrd, if_pos c, hw]) ih
    · rw [if_neg c]
      exact Ev.step (f := fun _ => some xs[i]) (fun k => by rw [cmp_Or_int.l0, if_pos (by omega), if_pos (by omega), if_pos (by omega), hrd, if_neg c]) (Ev.now _)
theorem or2_f (x y : Int) : Ev (fun k => cmp_Or_int.f k [x, y]) (if x = 0 then y else x) := by
  have h := or_l [x, y] _ 0 rfl (Nat.zero_le _) (by simp)
  have e : (([x, y] : List Int).drop 0).foldr (fun x r => if x = 0 then r else x) 0 = if x = 0 then y else x := by
    simp only [List.drop_zero, List.foldr_cons, List.foldr_nil]
    by_cases hx : x = 0
    · rw [if_pos hx, if_pos hx]; split
      · rename_i h; exact h.symm
      · rfl
    · rw [if_neg hx, if_neg hx]
  rw [e] at h
  exact Ev.congr (fun k => rfl) h
theorem or3_f (x y z : Int) : Ev (fun k => cmp_Or_int.f k [x, y, z]) (or3 x y z) := by
  have h := or_l [x, y, z] _ 0 rfl (Nat.zero_le _) (by simp)
  have e : (([x, y, z] : List Int).drop 0).foldr (fun x r => if x = 0 then r else x) 0 = or3 x y z := by
    simp only [List.drop_zero, List.foldr_cons, List.foldr_nil]
    unfold or3
    by_cases hx : x = 0
    · rw [if_pos hx, if_pos hx]
      by_cases hy : y = 0
      · rw [if_pos hy, if_pos hy]; split
        · rename_i h; exact h.symm
        · rfl
      · rw [if_neg hy, if_neg hy]
    · rw [if_neg hx, if_neg hx]
  rw [e] at h
  exact Ev.congr (fun k => rfl) h
theorem tlS_data (s : ByteArray) : (tlS s).data.toList = Lib.trimLeftB s.data.toList 48 := rfl
theorem runs_f (a b : ByteArray) : Ev (fun k => numeral_runs.f k a b) (runL a.data.toList b.data.toList) := by
  have j_em : Lib.compareInt (mn (a.size : Int) 1) (mn (b.size : Int) 1) = Lib.compareInt (one0 a.data.toList) (one0 b.data.toList) := by
    unfold one0
    rw [size_len, size_len]
    have e : ∀ n : Nat, mn (n : Int) 1 = if n = 0 then 0 else 1 := fun n => by unfold mn; repeat' split <;> omega
    rw [e, e]
  have hne : ∀ s : ByteArray, s.toList = [] ↔ s.data.toList.length = 0 := fun s => by rw [nil_iff, List.length_eq_zero_iff]
  have yes : (a.toList = [] ∨ b.toList = []) → Ev (fun k => numeral_runs.j0 k a b true) (runL a.data.toList b.data.toList) := by
    intro h
    have e : runL a.data.toList b.data.toList = Lib.compareInt (one0 a.data.toList) (one0 b.data.toList) := by
      unfold runL
      by_cases c : Lib.compareInt (one0 a.data.toList) (one0 b.data.toList) = 0
      · have c' := (cmpI_zero _ _).1 c
        have hab : a.data.toList = [] ∧ b.data.toList = [] := by
          unfold one0 at c'
          rcases h with h | h
          · have h' := (hne a).1 h
            rw [if_pos h'] at c'
            refine ⟨List.length_eq_zero_iff.1 h', List.length_eq_zero_iff.1 ?_⟩
            by_cases q : b.data.toList.length = 0
            · exact q
            · rw [if_neg q] at c'; exact absurd c' (by decide)
          · have h' := (hne b).1 h
            rw [if_pos h'] at c'
            refine ⟨List.length_eq_zero_iff.1 ?_, List.length_eq_zero_iff.1 h'⟩
            by_cases q : a.data.toList.length = 0
            · exact q
            · rw [if_neg q] at c'; exact absurd c' (by decide)
        rw [if_pos c, c, hab.1, hab.2]; rfl
      · rw [if_neg c]
    rw [e]
    exact Ev.step (f := fun _ => some (Lib.compareInt (one0 a.data.toList) (one0 b.data.toList))) (fun k => by rw [numeral_runs.j0, if_pos rfl]; unfold cmp_Compare_int.f; rw [j_em]; rfl) (Ev.now _)
  by_cases ca : a.toList = []
  · exact Ev.congr (fun k => by unfold numeral_runs.f; rw [if_pos ca]) (yes (.inl ca))
  · by_cases cb : b.toList = []
    · exact Ev.congr (f := fun k => numeral_runs.j0 k a b true) (fun k => by unfold numeral_runs.f; rw [if_neg ca, beq_iff_eq.mpr cb]) (yes (.inr cb))
    · have e : runL a.data.toList b.data.toList = if Lib.compareInt ((tlS a).size : Int) ((tlS b).size : Int) = 0 then Lib.compareBytes (tlS a).data.toList (tlS b).data.toList else Lib.compareInt ((tlS a).size : Int) ((tlS b).size : Int) := by
        unfold runL one0
        have ha : ¬ a.data.toList.length = 0 := fun h => ca ((hne a).2 h)
        have hb : ¬ b.data.toList.length = 0 := fun h => cb ((hne b).2 h)
        rw [if_neg ha, if_neg hb, if_pos (cmpI_self _), ← size_len, ← size_len, tlS_data, tlS_data]
      rw [e]
      have hor := or2_f (Lib.compareInt ((tlS a).size : Int) ((tlS b).size : Int)) (Lib.compareBytes (tlS a).data.toList (tlS b).data.toList)
      refine Ev.congr (f := fun k => numeral_runs.j0 k a b false) (fun k => by unfold numeral_runs.f; rw [if_neg ca, beq_eq_false_iff_ne.mpr cb]) ?_
      refine Ev.step (f := fun k => (cmp_Or_int.f k [Lib.compareInt ((tlS a).size : Int) ((tlS b).size : Int), Lib.compareBytes (tlS a).data.toList (tlS b).data.toList]).bind fun t => some t) (fun k => by
        rw [numeral_runs.j0, if_neg (by decide), tl_f, tl_f]
        simp only [Option.bind_some]
        unfold cmp_Compare_int.f strings_Compare.f
        simp only [Option.bind_some]) ?_
      exact Ev.bind hor (Ev.now _)

theorem versions_ev : ∀ (n : Nat) (a b : ByteArray), a.size ≤ n → b.size ≤ n → n ≤ 140737488351232 → Ev (fun k => numeral_versions.l0 k a b) (versL rkU n a.data.toList b.data.toList) := by
  have stop : ∀ (n : Nat) (a b : ByteArray), a.toList = [] → b.toList = [] → Ev (fun k => numeral_versions.l0 k a b) (versL rkU n a.data.toList b.data.toList) := by
    intro n a b ha hb
    rw [(nil_iff a).1 ha, (nil_iff b).1 hb, vers_nil]
    have hb' : (b.toList != ([] : List UInt8)) = false := bne_eq_false_iff_eq.mpr hb
    exact Ev.step (f := fun k => numeral_versions.j1 k a b false) (fun k => by rw [numeral_versions.l0, if_pos ha, hb']) (Ev.step (f := fun _ => some 0) (fun k => by rw [numeral_versions.j1, if_neg (by decide)]) (Ev.now _))
  intro n
  induction n with
  | zero =>
    intro a b ha hb hn
    exact stop 0 a b ((toList_nil a).2 (by omega)) ((toList_nil b).2 (by omega))
  | succ n ih =>
    intro a b ha hb hn
    by_cases c : a.toList = [] ∧ b.toList = []
    · exact stop (n + 1) a b c.1 c.2
    · have go : Ev (fun k => numeral_versions.j1 k a b true) (versL rkU (n + 1) a.data.toList b.data.toList) := by
        have pa := pair_f a (by omega)
        have pb := pair_f b (by omega)
        have sz : ∀ s : ByteArray, s.size ≤ n + 1 → ∀ l : List UInt8, l.length ≤ s.data.toList.length → (⟨l.toArray⟩ : ByteArray).size ≤ n + 1 := fun s hs l hl => by
          show l.toArray.size ≤ n + 1
          rw [List.size_toArray]
          rw [size_len] at hl
          omega
        have lN : ∀ l : List UInt8, (vN l).length ≤ l.length := fun l => Pr.takeWhile_len l
        have pw := words_f (⟨(vN a.data.toList).toArray⟩ : ByteArray) (⟨(vN b.data.toList).toArray⟩ : ByteArray) (Nat.le_trans (sz a ha _ (lN _)) hn) (Nat.le_trans (sz b hb _ (lN _)) hn)
        have pr := runs_f (⟨(vD a.data.toList).toArray⟩ : ByteArray) (⟨(vD b.data.toList).toArray⟩ : ByteArray)
        have hM : ∀ s : ByteArray, s.size ≤ n + 1 → (⟨(vM s.data.toList).toArray⟩ : ByteArray).size ≤ n := fun s hs => by
          show (vM s.data.toList).toArray.size ≤ n
          rw [List.size_toArray]
          exact vM_len _ n (by rw [size_len]; exact hs)
        have pv := ih (⟨(vM a.data.toList).toArray⟩ : ByteArray) (⟨(vM b.data.toList).toArray⟩ : ByteArray) (hM a ha) (hM b hb) (by omega)
        have dN : ∀ l : List UInt8, (⟨l.toArray⟩ : ByteArray).data.toList = l := fun l => rfl
        rw [dN, dN] at pw pr pv
        rw [versL]
        generalize wordW rkU (vN a.data.toList) (vN b.data.toList) = x at *
        generalize runL (vD a.data.toList) (vD b.data.toList) = y at *
        have po := or2_f x y
        generalize (if x = 0 then y else x) = t at *
        refine Ev.step (f := fun k => (numeral_pair.f k a).bind fun bt190 => ((numeral_pair.f k b).bind fun bt193 => ((numeral_words.f k bt190.1 bt193.1).bind fun t196 => ((numeral_runs.f k bt190.2.1 bt193.2.1).bind fun t197 => ((cmp_Or_int.f k (([t196, t197] : List Int))).bind fun t201 => (if t201 = 0 then (numeral_versions.l0 k bt190.2.2 bt193.2.2) else (some t201))))))) (fun k => by rw [numeral_versions.j1, if_pos rfl]) ?_
        refine Ev.bind pa (Ev.bind pb (Ev.bind pw (Ev.bind pr (Ev.bind po ?_))))
        by_cases e : t = 0
        · rw [if_pos e]; exact Ev.congr (fun k => by rw [if_pos e]) pv
        · rw [if_neg e]; exact Ev.congr (fun k => by rw [if_neg e]) (Ev.now _)
      by_cases ca : a.toList = []
      · have cb : b.toList ≠ [] := fun h => c ⟨ca, h⟩
        exact Ev.step (f := fun k => numeral_versions.j1 k a b true) (fun k => by rw [numeral_versions.l0, if_pos ca, bne_iff_ne.mpr cb]) go
      · exact Ev.step (f := fun k => numeral_versions.j1 k a b true) (fun k => by rw [numeral_versions.l0, if_neg ca]) go
theorem versions_f (a b : ByteArray) (ha : a.size ≤ 1048576) (hb : b.size ≤ 1048576) : Ev (fun k => numeral_versions.f k a b) (versW rkU a.data.toList b.data.toList) := by
  have h := versions_ev (a.size + b.size) a b (by omega) (by omega) (by omega)
  have e : versW rkU a.data.toList b.data.toList = versL rkU (a.size + b.size) a.data.toList b.data.toList := by unfold versW; rw [size_len, size_len]
  rw [e]
  exact Ev.congr (fun k => rfl) h
end Go.Proofs.YtnnoegjgaelafaaDoor.Nu
