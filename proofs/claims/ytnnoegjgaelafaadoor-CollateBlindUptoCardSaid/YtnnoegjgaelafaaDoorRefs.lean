/- The document's Fields answers fieldsL; the program's behind and skip. (Of FieldsEq, for the seat at which Fields of the program is not reached.) Where a field begins: the program's way and the list of the fields. Pure. The document's answers of one key: what is shaped is right, what goes together goes together. Pure. The document's begin and Span, as plain functions of the places. Pure. The program's way to a key's part of a line is the document's. Pure. -/
import Derived.Test.YtnnoegjgaelafaaDoorPrx8
import Derived.Test.YtnnoegjgaelafaaDoorPrx12
import Derived.Test.YtnnoegjgaelafaaDoorModel
import Derived.ShutString
import Derived.Test.YtnnoegjgaelafaaDoorBase
import Derived.Test.YtnnoegjgaelafaaDoorPrx3
import Derived.Test.YtnnoegjgaelafaaDoorPrx4
import Derived.Test.YtnnoegjgaelafaaDoorPrx5
namespace Go.Proofs.YtnnoegjgaelafaaDoor.Pr
open Go.RowKit Go.Proofs.YtnnoegjgaelafaaDoorW.PrintWords Go.Proofs.YtnnoegjgaelafaaDoorW.PrintLast
set_option linter.unusedVariables false

abbrev Sp := S37
def spanOf (p : Nat × Nat) : Sp := ⟨(p.1 : Int), (p.2 : Int)⟩
def spans (l : List (Nat × Nat)) : List Sp := l.map spanOf

theorem wrap64_id {x : Int} (h0 : 0 ≤ x) (h1 : x ≤ 140737488351240) : wrap64 x = x := by
  unfold wrap64; omega

theorem size_toList (s : ByteArray) : s.toList.length = s.size := by
  rw [Lib.toList_data, Array.length_toList]; rfl

/-! ### The program -/
theorem skip_some (s : ByteArray) (hs : s.size ≤ 140737488351232) (b : Bool) (i : Nat) (hi : i ≤ s.size) : collate_skip.f s (i : Int) 1 b = some ((skipTo s b i : Nat) : Int) := by
  unfold collate_skip.f
  rw [if_pos ⟨hs, by omega, by omega, rfl⟩]
  rfl
theorem behind_some (s : ByteArray) (hs : s.size ≤ 140737488351232) (t : Int) (ht : t ≤ 255) (i : Nat) (hi : i ≤ s.size) : collate_behind.f s (i : Int) t = some ((behindN s t i : Nat) : Int) := by
  unfold collate_behind.f behindN
  by_cases h : t < 0
  · rw [if_pos h, if_pos h, skip_some s hs true i hi, Option.bind_some, skip_some s hs false _ (skip_le s true i hi), Option.bind_some]
  · rw [if_neg h, if_neg h, if_pos (by omega), if_pos (by omega)]
    unfold strings_IndexByte.f
    rw [Option.bind_some, Int.toNat_natCast, index_tab s t (by omega) ht i hi]
    have h1 := tab_ge s t i hi
    have h2 := tab_le s t i hi
    by_cases hl : tabTo s t i < s.size
    · rw [if_pos hl, if_pos (by omega), wrap64_id (by omega) (by omega)]
      congr 1; omega
    · rw [if_neg hl, if_neg (by omega)]
      congr 1; omega

/-! ### The reference -/
theorem blank_some (c : Int) : millref5_Blank.f c = some (blank c) := by
  unfold millref5_Blank.f blank
  by_cases h : c = 32
  · rw [if_pos h, h]; rfl
  · rw [if_neg h, beq_eq_false_iff_ne.2 h, Bool.or_false]
theorem bt_w (s : ByteArray) (i : Int) : wrap64 (bt s i) = bt s i := by
  have := bt_range s i
  exact wrap64_id (by omega) (by omega)
/-- Where a field without separator ends. -/
theorem behind_split (s : ByteArray) (t : Int) (ht : t < 0) (f i : Nat) (hf : f < i) (hi : i < s.size) (hb : i ≤ behindN s t f) :
    (isB s i = true ∧ isB s (i - 1) = false → behindN s t f = i) ∧ (¬ (isB s i = true ∧ isB s (i - 1) = false) → i + 1 ≤ behindN s t f) := by
  have e : behindN s t f = skipTo s false (skipTo s true f) := by unfold behindN; rw [if_pos ht]
  rw [e] at hb ⊢
  have h2 := skip_le s true f (by omega)
  have h3 := skip_ge s false _ h2
  have h4 := skip_le s false _ h2
  constructor
  · rintro ⟨a, b⟩
    apply Nat.le_antisymm _ hb
    apply Nat.le_of_not_lt
    intro hlt
    by_cases hm : skipTo s true f ≤ i
    · have := skip_in s false _ i h2 hm hlt
      rw [a] at this; cases this
    · have := skip_in s true f (i - 1) (by omega) (by omega) (by omega)
      rw [b] at this; cases this
  · intro hn
    apply Nat.lt_of_not_le
    intro hle
    have he : skipTo s false (skipTo s true f) = i := by omega
    have hat := skip_at s false _ h2 (by omega)
    rw [he] at hat
    have hbi : isB s i = true := by simpa using hat
    apply hn
    refine ⟨hbi, ?_⟩
    by_cases hm : skipTo s true f = i
    · have hat2 := skip_at s true f (by omega) (by omega)
      rw [hm] at hat2
      exact absurd hbi hat2
    · exact skip_in s false _ (i - 1) h2 (by omega) (by omega)
theorem ref_tab (s : ByteArray) (hs : s.size ≤ 1048576) (t : Int) (ht : 0 ≤ t) : ∀ (n f i : Nat) (acc : List Sp), s.size - i = n → f ≤ i → i ≤ s.size → acc.length ≤ f → i ≤ tabTo s t f →
    Ev (fun k => millref5_Fields.l0 k s t acc (f : Int) (i : Int)) (acc ++ spans (fieldsFrom s t f)) := by
  intro n
  induction n with
  | zero =>
    intro f i acc hn hf hi hl hb
    have he : i = s.size := by omega
    subst he
    refine Ev.step (fun k => by rw [millref5_Fields.l0]) ?_
    have hlen : acc.length < 8796093022208 := by omega
    have hbe : behindN s t f = s.size := by have := behind_le s t f hf; have e : behindN s t f = tabTo s t f := by unfold behindN; rw [if_neg (by omega)]
                                            omega
    simp only [if_neg (Int.lt_irrefl _), if_pos (show t ≥ 0 by omega), if_pos hlen]
    rw [fields_last s t f hbe]
    exact Ev.now _
  | succ n ih =>
    intro f i acc hn hf hi hl hb
    have hlt : i < s.size := by omega
    refine Ev.step (fun k => by rw [millref5_Fields.l0]) ?_
    simp only [if_pos (show (i : Int) < (s.size : Int) by omega), if_pos (show t ≥ 0 by omega), if_pos (show (0 : Int) ≤ (i : Int) by omega), bt_w]
    have hlen : acc.length < 8796093022208 := by omega
    have ebe : behindN s t f = tabTo s t f := by unfold behindN; rw [if_neg (by omega)]
    have htl := tab_le s t f (by omega)
    by_cases e : bt s (i : Int) = t
    · have hbe : behindN s t f = i := by
        rw [ebe]
        apply Nat.le_antisymm _ hb
        apply Nat.le_of_not_lt
        intro h
        exact tab_in s t f i (by omega) hf h e
      rw [beq_iff_eq.2 e]
      refine Ev.step (fun k => by rw [millref5_Fields.j2, if_pos (show true = true from rfl)]) ?_
      simp only [if_pos hlen, wrap64_id (show (0 : Int) ≤ (i : Int) + 1 by omega) (by omega)]
      refine Ev.step (fun k => by rw [millref5_Fields.j3, if_neg (by omega)]) ?_
      refine Ev.step (fun k => by rw [millref5_Fields.j4, if_neg (by decide)]) ?_
      simp only [wrap64_id (show (0 : Int) ≤ (i : Int) + 1 by omega) (by omega)]
      have hne : behindN s t f ≠ s.size := by omega
      rw [fields_more s t f (by omega) hne, hbe]
      have hnx : nextN t i = i + 1 := by unfold nextN; rw [if_neg (by omega)]
      rw [hnx]
      have := ih (i + 1) (i + 1) (acc ++ [(⟨(f : Int), (i : Int)⟩ : Sp)]) (by omega) (Nat.le_refl _) (by omega) (by simp; omega) (tab_ge s t _ (by omega))
      simpa [spans, spanOf] using this
    · rw [beq_eq_false_iff_ne.2 e]
      refine Ev.step (fun k => by rw [millref5_Fields.j2, if_neg (by decide)]) ?_
      refine Ev.step (fun k => by rw [millref5_Fields.j3, if_neg (by omega)]) ?_
      refine Ev.step (fun k => by rw [millref5_Fields.j4, if_neg (by decide)]) ?_
      simp only [wrap64_id (show (0 : Int) ≤ (i : Int) + 1 by omega) (by omega)]
      have hb2 : i + 1 ≤ tabTo s t f := by
        apply Nat.lt_of_not_le
        intro h
        have he : tabTo s t f = i := by omega
        have := tab_at s t f (by omega) (by omega)
        rw [he] at this
        exact e this
      have := ih f (i + 1) acc (by omega) (by omega) (by omega) hl hb2
      simpa using this
theorem ref_blank (s : ByteArray) (hs : s.size ≤ 1048576) (t : Int) (ht : t < 0) (h0 : 0 < s.size) : ∀ (n f i : Nat) (acc : List Sp), s.size - i = n → i ≤ s.size → acc.length ≤ f → (i = 0 ∧ f = 0 ∨ f < i ∧ i ≤ behindN s t f) →
    Ev (fun k => millref5_Fields.l0 k s t acc (f : Int) (i : Int)) (acc ++ spans (fieldsFrom s t f)) := by
  intro n
  induction n with
  | zero =>
    intro f i acc hn hi hl hb
    have he : i = s.size := by omega
    subst he
    refine Ev.step (fun k => by rw [millref5_Fields.l0]) ?_
    have hlen : acc.length < 8796093022208 := by omega
    have hbe : behindN s t f = s.size := by have := behind_le s t f (by omega); omega
    simp only [if_neg (Int.lt_irrefl _), if_neg (show ¬ t ≥ 0 by omega), if_pos (show (s.size : Int) > 0 by omega), if_pos hlen]
    rw [fields_last s t f hbe]
    exact Ev.now _
  | succ n ih =>
    intro f i acc hn hi hl hb
    have hlt : i < s.size := by omega
    refine Ev.step (fun k => by rw [millref5_Fields.l0]) ?_
    simp only [if_pos (show (i : Int) < (s.size : Int) by omega), if_neg (show ¬ t ≥ 0 by omega)]
    have hlen : acc.length < 8796093022208 := by omega
    refine Ev.step (fun k => by rw [millref5_Fields.j2, if_neg (by decide)]) ?_
    refine Ev.step (fun k => by rw [millref5_Fields.j3, if_pos ht]) ?_
    by_cases hi0 : i = 0
    · obtain rfl : f = 0 := by omega
      subst hi0
      refine Ev.step (fun k => by rw [millref5_Fields.j4, if_neg (by decide)]) ?_
      have h1 := behind_gt s t ht 0 h0
      have := ih 0 1 acc (by omega) (by omega) hl (Or.inr ⟨by omega, by omega⟩)
      have e1 : wrap64 (((0 : Nat) : Int) + 1) = ((1 : Nat) : Int) := by rw [wrap64_id (by omega) (by omega)]; rfl
      simp only [e1]
      exact this
    · have hd : decide ((i : Int) > 0) = true := decide_eq_true (by omega)
      obtain ⟨hfi, hbi⟩ : f < i ∧ i ≤ behindN s t f := by omega
      have q1 : (0 : Int) ≤ (i : Int) := by omega
      have q2 : (i : Int) < (s.size : Int) := by omega
      have q3 : (0 : Int) ≤ ((i - 1 : Nat) : Int) := by omega
      have q4 : ((i - 1 : Nat) : Int) < (s.size : Int) := by omega
      obtain ⟨hs1, hs2⟩ := behind_split s t ht f i hfi hlt hbi
      have e1 : wrap64 ((i : Int) - 1) = ((i - 1 : Nat) : Int) := by rw [wrap64_id (by omega) (by omega)]; omega
      have e2 : wrap64 ((i : Int) + 1) = ((i + 1 : Nat) : Int) := by rw [wrap64_id (by omega) (by omega)]; omega
      rw [hd]
      refine Ev.step (fun k => millref5_Fields.j4.eq_2 s t acc (f : Int) (i : Int) true k) ?_
      simp only [↓reduceIte, if_pos q1, if_pos q2, blank_some, Option.bind_some, e1, e2, if_pos q3, if_pos q4]
      clear e1 e2 hd
      have ha : blank (bt s (i : Int)) = isB s i := rfl
      have hp : blank (bt s ((i - 1 : Nat) : Int)) = isB s (i - 1) := rfl
      rw [ha, hp]
      by_cases hb1 : isB s i = true
      · by_cases hb2 : isB s (i - 1) = true
        · simp only [if_pos hb1, if_pos hb2]
          exact ih f (i + 1) acc (by omega) (by omega) hl (Or.inr ⟨by omega, hs2 (by rw [hb2]; simp)⟩)
        · have hbe := hs1 ⟨hb1, by simpa using hb2⟩
          simp only [if_pos hb1, if_neg hb2, if_pos hlen]
          rw [fields_more s t f (by omega) (by omega), hbe]
          have hnx : nextN t i = i := by unfold nextN; rw [if_pos ht]
          rw [hnx]
          have h3 := behind_gt s t ht i hlt
          have := ih i (i + 1) (acc ++ [(⟨(f : Int), (i : Int)⟩ : Sp)]) (by omega) (by omega) (by simp; omega) (Or.inr ⟨by omega, by omega⟩)
          simpa [spans, spanOf] using this
      · simp only [if_neg hb1]
        exact ih f (i + 1) acc (by omega) (by omega) hl (Or.inr ⟨by omega, hs2 (fun h => hb1 h.1)⟩)
theorem fields_ref (s : ByteArray) (hs : s.size ≤ 1048576) (t : Int) : Ev (fun k => millref5_Fields.f k s t) (spans (fieldsL s t)) := by
  unfold millref5_Fields.f fieldsL
  by_cases h1 : t < -1
  · simp only [if_pos h1, if_pos (Or.inl h1 : t < -1 ∨ 255 < t ∨ t = -1 ∧ s.size = 0)]
    exact Ev.step (f := fun _ => some (spans [])) (fun k => by rw [millref5_Fields.j0, if_pos (show true = true from rfl)]; rfl) (Ev.now _)
  · by_cases h2 : t > 255
    · simp only [if_neg h1, decide_eq_true h2, if_pos (Or.inr (Or.inl h2) : t < -1 ∨ 255 < t ∨ t = -1 ∧ s.size = 0)]
      exact Ev.step (f := fun _ => some (spans [])) (fun k => by rw [millref5_Fields.j0, if_pos (show true = true from rfl)]; rfl) (Ev.now _)
    · simp only [if_neg h1, decide_eq_false h2]
      refine Ev.step (fun k => by rw [millref5_Fields.j0, if_neg (by decide)]) ?_
      by_cases h3 : 0 ≤ t
      · rw [if_neg (by omega)]
        have := ref_tab s hs t h3 _ 0 0 [] rfl (Nat.le_refl _) (by omega) (by simp) (by omega)
        simpa using this
      · by_cases h4 : s.size = 0
        · rw [if_pos (by omega)]
          refine Ev.step (f := fun _ => some (spans [])) (fun k => by rw [millref5_Fields.l0, if_neg (by omega), if_neg (by omega), if_neg (by omega)]; rfl) (Ev.now _)
        · rw [if_neg (by omega)]
          have := ref_blank s hs t (by omega) (by omega) _ 0 0 [] rfl (by omega) (by simp) (Or.inl ⟨rfl, rfl⟩)
          simpa using this
end Go.Proofs.YtnnoegjgaelafaaDoor.Pr
namespace Go.Proofs.YtnnoegjgaelafaaDoor.Pr
open Go.RowKit Go.Proofs.YtnnoegjgaelafaaDoorW.PrintWords Go.Proofs.YtnnoegjgaelafaaDoorW.PrintLast
set_option linter.unusedVariables false

/-- The place n fields behind i, and whether it is there. -/
def placeFrom (s : ByteArray) (t : Int) (i : Nat) : Nat → Nat × Bool
  | 0 => (i, true)
  | n + 1 => if behindN s t i = s.size then (s.size, false) else placeFrom s t (nextN t (behindN s t i)) n
theorem next_le (s : ByteArray) (t : Int) (i : Nat) (hi : i ≤ s.size) (h : behindN s t i ≠ s.size) : nextN t (behindN s t i) ≤ s.size := by
  have := behind_le s t i hi
  unfold nextN; split <;> omega
theorem place_le (s : ByteArray) (t : Int) : ∀ (n i : Nat), i ≤ s.size → (placeFrom s t i n).1 ≤ s.size
  | 0, i, hi => hi
  | n + 1, i, hi => by
    unfold placeFrom
    split
    · exact Nat.le_refl _
    · rename_i h; exact place_le s t n _ (next_le s t i hi h)
theorem place_fields (s : ByteArray) (t : Int) : ∀ (n i : Nat), i ≤ s.size → placeFrom s t i n = match (fieldsFrom s t i)[n]? with | some p => (p.1, true) | none => (s.size, false)
  | 0, i, hi => by
    by_cases h : behindN s t i = s.size
    · rw [fields_last s t i h]; rfl
    · rw [fields_more s t i hi h]; rfl
  | n + 1, i, hi => by
    unfold placeFrom
    by_cases h : behindN s t i = s.size
    · rw [if_pos h, fields_last s t i h]; rfl
    · rw [if_neg h, fields_more s t i hi h, List.getElem?_cons_succ]
      exact place_fields s t n _ (next_le s t i hi h)
theorem place_false (s : ByteArray) (t : Int) : ∀ (n i : Nat), (placeFrom s t i n).2 = false → (placeFrom s t i n).1 = s.size
  | 0, i, h => by cases h
  | n + 1, i, h => by
    unfold placeFrom at h ⊢
    split
    · rfl
    · rename_i h2; rw [if_neg h2] at h; exact place_false s t n _ h
theorem field_loop (s : ByteArray) (hs : s.size ≤ 1048576) (t : Int) (ht : t ≤ 255) : ∀ (n : Nat) (N : Int) (i : Nat) (j : Int), N - j = (n : Int) → 0 ≤ j → N ≤ 2147483647 → i ≤ s.size →
    Ev (fun k => collate_field.l0 k s t (i : Int) N j) (((placeFrom s t i n).1 : Nat), (placeFrom s t i n).2)
  | 0, N, i, j, hn, hj, hN, hi => by
    refine Ev.step (f := fun _ => some ((i : Int), true)) (fun k => by rw [collate_field.l0, if_neg (by omega)]) ?_
    exact Ev.now _
  | n + 1, N, i, j, hn, hj, hN, hi => by
    have hb := behind_some s (by omega) t ht i hi
    have hle := behind_le s t i hi
    by_cases h : behindN s t i = s.size
    · refine Ev.step (f := fun _ => some ((s.size : Int), false)) (fun k => by rw [collate_field.l0, if_pos (by omega), hb, Option.bind_some, h, if_pos rfl]) ?_
      unfold placeFrom; rw [if_pos h]
      exact Ev.now _
    · have hne : ¬ ((behindN s t i : Nat) : Int) = (s.size : Int) := by omega
      have hw := wrap64_id (x := j + 1) (by omega) (by omega)
      have hw2 := wrap64_id (x := ((behindN s t i : Nat) : Int) + 1) (by omega) (by omega)
      have ih := field_loop s hs t ht n N (nextN t (behindN s t i)) (j + 1) (by omega) (by omega) hN (next_le s t i hi h)
      refine Ev.step (f := fun k => collate_field.l0 k s t ((nextN t (behindN s t i) : Nat) : Int) N (j + 1)) (fun k => by
        rw [collate_field.l0, if_pos (by omega), hb, Option.bind_some, if_neg hne, hw, hw2]
        unfold nextN
        by_cases h0 : t < 0
        · rw [if_neg (by omega), if_pos h0]
        · rw [if_pos (by omega), if_neg h0]; rfl) ?_
      unfold placeFrom; rw [if_neg h]
      exact ih
theorem field_prog (s : ByteArray) (hs : s.size ≤ 1048576) (t : Int) (ht : t ≤ 255) (n : Int) (h1 : 1 ≤ n) (h2 : n ≤ 2147483647) :
    Ev (fun k => collate_field.f k s n t) (((placeFrom s t 0 (n - 1).toNat).1 : Nat), (placeFrom s t 0 (n - 1).toNat).2) := by
  have hw := wrap64_id (x := n - 1) (by omega) (by omega)
  have := field_loop s hs t ht (n - 1).toNat (n - 1) 0 0 (by omega) (by omega) (by omega) (Nat.zero_le _)
  refine Ev.congr (fun k => ?_) this
  rw [collate_field.f, hw]; rfl
end Go.Proofs.YtnnoegjgaelafaaDoor.Pr
namespace Go.Proofs.YtnnoegjgaelafaaDoor.Pr
open Go.RowKit Go.Proofs.YtnnoegjgaelafaaDoorW.PrintWords Go.Proofs.YtnnoegjgaelafaaDoorW.PrintLast
set_option linter.unusedVariables false
set_option linter.unusedSimpArgs false

theorem wrap_small (x : Int) (h0 : 0 ≤ x) (h1 : x < 65536) : wrap64 x = x := by simp only [wrap64]; first | omega | (rw [IntKind.wrap_i64]; omega)
set_option maxHeartbeats 4000000 in
theorem shaped_right (k : Ky) (n : Nat) (hn : k.f4 = (n : Int)) (h : n < 65536) : millref5_shaped.f 3 k.f0 k.f1 k.f2 k.f3 k.f4 k.f5 = some (rightB k) := by
  have e := right_some k
  rw [← e, hn]
  have ha := and_small n h
  have hw := wrap_small (n : Int) (by omega) (by omega)
  unfold millref5_shaped.f collate_right.f
  simp only [millref5_shaped.j0, millref5_shaped.j1, ha, hw]
  have hd : decide ((n : Int) < 1024) = decide (n < 1024) := by rw [Bool.eq_iff_iff]; simp; omega
  rw [hd]
  generalize decide (n < 1024) = q
  clear e hd ha hw
  generalize k.f0 = a0
  generalize k.f1 = a1
  generalize k.f2 = a2
  generalize k.f3 = a3
  generalize k.f5 = a5
  simp only [decide_eq_true_eq, if_true, ite_true]
  by_cases c0 : a0 < 1 <;> simp only [c0, if_true, if_false]
  by_cases c1 : a0 > 2147483647 <;> simp only [c1, if_true, if_false]
  by_cases c2 : a1 < 1 <;> simp only [c2, if_true, if_false]
  by_cases c3 : a1 > 2147483647 <;> simp only [c3, if_true, if_false]
  by_cases c4 : a2 < 0 <;> simp only [c4, if_true, if_false]
  by_cases c5 : a2 > 2147483647 <;> simp only [c5, if_true, if_false]
  by_cases c6 : a3 < 0 <;> simp only [c6, if_true, if_false]
  by_cases c7 : a3 > 2147483647 <;> simp only [c7, if_true, if_false]
  by_cases c8 : a2 = 0
  · subst c8; simp
  · have : a2 > 0 := by omega
    simp only [c8, this, if_true, if_false]
theorem together_table : ∀ m : Fin 1024, millref5_goTogether.f 5 (m.val : Int) = some (togB m.val) := by decide +kernel
theorem together_ref (m : Nat) (h : m < 1024) : millref5_goTogether.f 5 (m : Int) = some (togB m) := together_table ⟨m, h⟩
theorem right_small (k : Ky) (n : Nat) (hn : k.f4 = (n : Int)) (h : n < 65536) (hr : rightB k = true) : n < 1024 := by
  have e := right_some k
  rw [hr, hn] at e
  have ha := and_small n h
  unfold collate_right.f at e
  rw [ha] at e
  by_cases hq : n < 1024
  · exact hq
  · rw [decide_eq_false hq] at e
    repeat' (split at e <;> try (cases e; done))
theorem has_one (m : Nat) (h : m < 1024) : millref5_has.f (m : Int) 1 = some (modB (m : Int)) := by
  have : ∀ m : Fin 1024, millref5_has.f (m.val : Int) 1 = some (modB (m.val : Int)) := by decide +kernel
  exact this ⟨m, h⟩
end Go.Proofs.YtnnoegjgaelafaaDoor.Pr
namespace Go.Proofs.YtnnoegjgaelafaaDoor.Pr
open Go.RowKit Go.Proofs.YtnnoegjgaelafaaDoorW.PrintWords Go.Proofs.YtnnoegjgaelafaaDoorW.PrintLast
set_option linter.unusedVariables false

/-- Where field number n begins; with b: behind the blanks there. -/
def begN (s : ByteArray) (t n : Int) (b : Bool) : Nat := if b then skipTo s true (placeFrom s t 0 (n - 1).toNat).1 else (placeFrom s t 0 (n - 1).toNat).1
theorem place_L (s : ByteArray) (t : Int) (h1 : -1 ≤ t) (h2 : t ≤ 255) (n : Nat) : (placeFrom s t 0 n).1 = match (fieldsL s t)[n]? with | some p => p.1 | none => s.size := by
  unfold fieldsL
  by_cases h : t = -1 ∧ s.size = 0
  · rw [if_pos (.inr (.inr h))]
    have := place_le s t n 0 (Nat.zero_le _)
    simp; omega
  · rw [if_neg (by omega), place_fields s t n 0 (Nat.zero_le _)]
    cases (fieldsFrom s t 0)[n]? <;> rfl
theorem beg_le (s : ByteArray) (t n : Int) (b : Bool) : begN s t n b ≤ s.size := by
  have := place_le s t (n - 1).toNat 0 (Nat.zero_le _)
  unfold begN; split
  · exact skip_le s true _ this
  · exact this
theorem ref_skip0 (s : ByteArray) (i : Int) : Ev (fun k => millref5_begin.l0 k s false i) i :=
  Ev.step (f := fun k => millref5_begin.j2 k s false i false) (fun k => by rw [millref5_begin.l0, if_neg (by decide)]) (Ev.step (f := fun _ => some i) (fun k => by rw [millref5_begin.j2, if_neg (by decide)]) (Ev.now _))
theorem ref_skip1 (s : ByteArray) (hs : s.size ≤ 1048576) : ∀ (n i : Nat), s.size - i = n → i ≤ s.size → Ev (fun k => millref5_begin.l0 k s true (i : Int)) ((skipTo s true i : Nat) : Int)
  | 0, i, hn, hi => by
    rw [skipTo_end s true i (by omega)]
    refine Ev.step (f := fun k => millref5_begin.j2 k s true (i : Int) false) (fun k => by rw [millref5_begin.l0, if_pos rfl, decide_eq_false (by omega)]) ?_
    exact Ev.step (f := fun _ => some (i : Int)) (fun k => by rw [millref5_begin.j2, if_neg (by decide)]) (Ev.now _)
  | n + 1, i, hn, hi => by
    have hlt : i < s.size := by omega
    have hw := wrap64_id (x := (i : Int) + 1) (by omega) (by omega)
    refine Ev.step (f := fun k => millref5_begin.j2 k s true (i : Int) true) (fun k => by rw [millref5_begin.l0, if_pos rfl, decide_eq_true (by omega)]) ?_
    cases hb : isB s i
    · rw [skipTo_stop s true i hlt (by rw [hb]; decide)]
      refine Ev.step (f := fun _ => some (i : Int)) (fun k => by
        rw [millref5_begin.j2, if_pos rfl, if_pos (by omega), if_pos (by omega), blank_some, Option.bind_some]
        have e : blank (bt s (i : Int)) = false := hb
        rw [e]; rfl) (Ev.now _)
    · rw [skipTo_go s true i hlt hb]
      refine Ev.step (f := fun k => millref5_begin.l0 k s true ((i + 1 : Nat) : Int)) (fun k => by
        rw [millref5_begin.j2, if_pos rfl, if_pos (by omega), if_pos (by omega), blank_some, Option.bind_some]
        have e : blank (bt s (i : Int)) = true := hb
        rw [e, if_pos rfl, hw]; rfl) ?_
      exact ref_skip1 s hs n (i + 1) (by omega) (by omega)
theorem rd_spans (l : List (Nat × Nat)) (i : Nat) (x : Int) (hx : x.toNat = i) (h : i < l.length) : rd_T37 (spans l) x = spanOf l[i] := by
  simp [rd_T37, spans, hx, h]
theorem ref_begin (s : ByteArray) (hs : s.size ≤ 1048576) (t : Int) (h1 : -1 ≤ t) (h2 : t ≤ 255) (n : Int) (hn : 1 ≤ n) (hn2 : n ≤ 2147483647) (b : Bool) :
    Ev (fun k => millref5_begin.f k s (spans (fieldsL s t)) n b) ((begN s t n b : Nat) : Int) := by
  have hp := place_L s t h1 h2 (n - 1).toNat
  have hle := place_le s t (n - 1).toNat 0 (Nat.zero_le _)
  have hw := wrap64_id (x := n - 1) (by omega) (by omega)
  have hl : (spans (fieldsL s t)).length = (fieldsL s t).length := by simp [spans]
  have main : Ev (fun k => millref5_begin.j0 k s b (((placeFrom s t 0 (n - 1).toNat).1 : Nat) : Int)) ((begN s t n b : Nat) : Int) := by
    refine Ev.step (f := fun k => millref5_begin.l0 k s b (((placeFrom s t 0 (n - 1).toNat).1 : Nat) : Int)) (fun k => by rw [millref5_begin.j0]) ?_
    cases b
    · exact ref_skip0 s _
    · exact ref_skip1 s hs _ _ rfl hle
  by_cases h : n ≤ ((fieldsL s t).length : Int)
  · have hlt : (n - 1).toNat < (fieldsL s t).length := by omega
    rw [List.getElem?_eq_getElem hlt] at hp
    refine Ev.congr (fun k => ?_) main
    rw [millref5_begin.f, hl, if_pos h, hw, if_pos (by omega), if_pos (by omega), hp]
    rw [rd_spans _ _ (n - 1) rfl hlt]; rfl
  · rw [List.getElem?_eq_none (by omega)] at hp
    refine Ev.congr (fun k => ?_) main
    rw [millref5_begin.f, hl, if_neg h, hp]
/-- The part of a line that is a key. -/
def fromI (s : ByteArray) (t : Int) (k : Ky) : Int := min (s.size : Int) ((begN s t k.f0 (modB k.f4) : Nat) + k.f1 - 1)
def toI (s : ByteArray) (t : Int) (k : Ky) : Int :=
  if k.f2 > 0 then (if k.f3 > 0 then min (s.size : Int) ((begN s t k.f2 k.f5 : Nat) + k.f3) else match (fieldsL s t)[(k.f2 - 1).toNat]? with | some p => (p.2 : Int) | none => (s.size : Int)) else (s.size : Int)
def spanI (s : ByteArray) (t : Int) (k : Ky) : Int × Int := (fromI s t k, max (fromI s t k) (toI s t k))
/-- A key's numbers are in their bounds. -/
structure Fit (k : Ky) : Prop where
  a : 1 ≤ k.f0
  b : k.f0 ≤ 2147483647
  c : 1 ≤ k.f1
  d : k.f1 ≤ 2147483647
  e : 0 ≤ k.f2
  f : k.f2 ≤ 2147483647
  g : 0 ≤ k.f3
  h : k.f3 ≤ 2147483647
theorem fit_of_right (k : Ky) (h : rightB k = true) : Fit k := by
  have e := right_some k
  rw [h] at e
  unfold collate_right.f at e
  generalize (bits .andNot .u16 k.f4 1023 == 0) = q at e
  by_cases c0 : k.f0 < 1
  · rw [if_pos c0] at e; cases e
  rw [if_neg c0] at e
  by_cases c1 : k.f0 > 2147483647
  · rw [if_pos c1] at e; cases e
  rw [if_neg c1] at e
  by_cases c2 : k.f1 < 1
  · rw [if_pos c2] at e; cases e
  rw [if_neg c2] at e
  by_cases c3 : k.f1 > 2147483647
  · rw [if_pos c3] at e; cases e
  rw [if_neg c3] at e
  by_cases c4 : k.f2 < 0
  · rw [if_pos c4] at e; cases e
  rw [if_neg c4] at e
  by_cases c5 : k.f2 > 2147483647
  · rw [if_pos c5] at e; cases e
  rw [if_neg c5] at e
  by_cases c6 : k.f3 < 0
  · rw [if_pos c6] at e; cases e
  rw [if_neg c6] at e
  by_cases c7 : k.f3 > 2147483647
  · rw [if_pos c7] at e; cases e
  exact ⟨by omega, by omega, by omega, by omega, by omega, by omega, by omega, by omega⟩
theorem ref_span3 (s : ByteArray) (hs : s.size ≤ 1048576) (t : Int) (h1 : -1 ≤ t) (h2 : t ≤ 255) (k : Ky) (hk : Fit k) (F T : Int) (hF0 : 0 ≤ F) (hF : F ≤ s.size) (b : Bool) (hb : b = decide (k.f2 > 0 ∧ k.f3 > 0)) (hT : b = false → T = toI s t k) :
    Ev (fun n => millref5_Span.j3 n s (spans (fieldsL s t)) F T b k.f0 k.f1 k.f2 k.f3 k.f4 k.f5) (F, max F (toI s t k)) := by
  have hg := hk.g; have hh := hk.h; have he := hk.e; have hf := hk.f
  cases b
  · have hT := hT rfl
    by_cases hlt : T < F
    · refine Ev.step (f := fun _ => some (F, F)) (fun n => by rw [millref5_Span.j3, if_neg (by decide), if_pos hlt]) ?_
      have : max F (toI s t k) = F := by omega
      rw [this]; exact Ev.now _
    · refine Ev.step (f := fun _ => some (F, T)) (fun n => by rw [millref5_Span.j3, if_neg (by decide), if_neg hlt]) ?_
      have : max F (toI s t k) = T := by omega
      rw [this]; exact Ev.now _
  · obtain ⟨hp2, hp3⟩ := of_decide_eq_true hb.symm
    have hbl := beg_le s t k.f2 k.f5
    have hw1 : wrap64 ((s.size : Int) - k.f3) = (s.size : Int) - k.f3 := by unfold wrap64; omega
    have hw2 := wrap64_id (x := ((begN s t k.f2 k.f5 : Nat) : Int) + k.f3) (by omega) (by omega)
    have hto : toI s t k = min (s.size : Int) ((begN s t k.f2 k.f5 : Nat) + k.f3) := by unfold toI; rw [if_pos hp2, if_pos hp3]
    refine Ev.step (f := fun n => (millref5_begin.f n s (spans (fieldsL s t)) k.f2 k.f5).bind fun t142 => (if t142 > (wrap64 ((s.size : Int) - k.f3)) then (if (s.size : Int) < F then (some (F, F)) else (some (F, (s.size : Int)))) else (if (wrap64 (t142 + k.f3)) < F then (some (F, F)) else (some (F, wrap64 (t142 + k.f3)))))) (fun n => by rw [millref5_Span.j3, if_pos rfl]) ?_
    refine Ev.bind (ref_begin s hs t h1 h2 k.f2 (by omega) (by omega) k.f5) ?_
    rw [hw1, hw2]
    by_cases hc : ((begN s t k.f2 k.f5 : Nat) : Int) > (s.size : Int) - k.f3
    · have : max F (toI s t k) = (s.size : Int) := by omega
      rw [this, if_pos hc, if_neg (by omega)]; exact Ev.now _
    · rw [if_neg hc]
      by_cases hd : ((begN s t k.f2 k.f5 : Nat) : Int) + k.f3 < F
      · have : max F (toI s t k) = F := by omega
        rw [this, if_pos hd]; exact Ev.now _
      · have : max F (toI s t k) = ((begN s t k.f2 k.f5 : Nat) : Int) + k.f3 := by omega
        rw [this, if_neg hd]; exact Ev.now _
theorem ref_span2 (s : ByteArray) (hs : s.size ≤ 1048576) (t : Int) (h1 : -1 ≤ t) (h2 : t ≤ 255) (k : Ky) (hk : Fit k) (F T : Int) (hF0 : 0 ≤ F) (hF : F ≤ s.size) (hT : ¬ (k.f2 > 0 ∧ k.f3 > 0) → T = toI s t k) :
    Ev (fun n => millref5_Span.j2 n s (spans (fieldsL s t)) F T k.f0 k.f1 k.f2 k.f3 k.f4 k.f5) (F, max F (toI s t k)) := by
  by_cases hp : k.f2 > 0
  · refine Ev.step (f := fun n => millref5_Span.j3 n s (spans (fieldsL s t)) F T (decide (k.f3 > 0)) k.f0 k.f1 k.f2 k.f3 k.f4 k.f5) (fun n => by rw [millref5_Span.j2, if_pos hp]) ?_
    refine ref_span3 s hs t h1 h2 k hk F T hF0 hF _ ?_ ?_
    · by_cases hq : k.f3 > 0
      · rw [decide_eq_true hq, decide_eq_true ⟨hp, hq⟩]
      · rw [decide_eq_false hq, decide_eq_false (fun h => hq h.2)]
    · intro hd; exact hT (fun h => by have := of_decide_eq_false hd; exact this h.2)
  · refine Ev.step (f := fun n => millref5_Span.j3 n s (spans (fieldsL s t)) F T false k.f0 k.f1 k.f2 k.f3 k.f4 k.f5) (fun n => by rw [millref5_Span.j2, if_neg hp]) ?_
    exact ref_span3 s hs t h1 h2 k hk F T hF0 hF false (by rw [decide_eq_false (fun h => hp h.1)]) (fun _ => hT (fun h => hp h.1))
theorem ref_span0 (s : ByteArray) (hs : s.size ≤ 1048576) (t : Int) (h1 : -1 ≤ t) (h2 : t ≤ 255) (k : Ky) (hk : Fit k) (F : Int) (hF0 : 0 ≤ F) (hF : F ≤ s.size) :
    Ev (fun n => millref5_Span.j0 n s (spans (fieldsL s t)) F k.f0 k.f1 k.f2 k.f3 k.f4 k.f5) (F, max F (toI s t k)) := by
  have he := hk.e; have hf := hk.f; have hg := hk.g
  have hl : (spans (fieldsL s t)).length = (fieldsL s t).length := by simp [spans]
  have away : (¬ (k.f2 > 0 ∧ k.f3 > 0) → (s.size : Int) = toI s t k) → Ev (fun n => millref5_Span.j1 n s (spans (fieldsL s t)) F (s.size : Int) false k.f0 k.f1 k.f2 k.f3 k.f4 k.f5) (F, max F (toI s t k)) := fun hT =>
    Ev.step (f := fun n => millref5_Span.j2 n s (spans (fieldsL s t)) F (s.size : Int) k.f0 k.f1 k.f2 k.f3 k.f4 k.f5) (fun n => by rw [millref5_Span.j1, if_neg (by decide)]) (ref_span2 s hs t h1 h2 k hk F _ hF0 hF hT)
  by_cases hp : k.f2 > 0
  · by_cases hz : k.f3 = 0
    · have hto : toI s t k = match (fieldsL s t)[(k.f2 - 1).toNat]? with | some p => (p.2 : Int) | none => (s.size : Int) := by unfold toI; rw [if_pos hp, if_neg (by omega)]
      have hw := wrap64_id (x := k.f2 - 1) (by omega) (by omega)
      refine Ev.step (f := fun n => millref5_Span.j1 n s (spans (fieldsL s t)) F (s.size : Int) (decide (k.f2 ≤ ((fieldsL s t).length : Int))) k.f0 k.f1 k.f2 k.f3 k.f4 k.f5) (fun n => by rw [millref5_Span.j0, if_pos hp, if_pos hz, hl]) ?_
      by_cases hle : k.f2 ≤ ((fieldsL s t).length : Int)
      · have hlt : (k.f2 - 1).toNat < (fieldsL s t).length := by omega
        rw [decide_eq_true hle]
        rw [List.getElem?_eq_getElem hlt] at hto
        refine Ev.step (f := fun n => millref5_Span.j2 n s (spans (fieldsL s t)) F (toI s t k) k.f0 k.f1 k.f2 k.f3 k.f4 k.f5) (fun n => by
          rw [millref5_Span.j1, if_pos rfl, hl, hw, if_pos (by omega), if_pos (by omega), rd_spans _ _ (k.f2 - 1) rfl hlt, hto]; rfl) ?_
        exact ref_span2 s hs t h1 h2 k hk F _ hF0 hF (fun _ => rfl)
      · rw [decide_eq_false hle]
        rw [List.getElem?_eq_none (by omega)] at hto
        exact away (fun _ => hto.symm)
    · exact Ev.step (f := fun n => millref5_Span.j1 n s (spans (fieldsL s t)) F (s.size : Int) false k.f0 k.f1 k.f2 k.f3 k.f4 k.f5) (fun n => by rw [millref5_Span.j0, if_pos hp, if_neg hz]) (away (fun h => absurd ⟨hp, by omega⟩ h))
  · exact Ev.step (f := fun n => millref5_Span.j1 n s (spans (fieldsL s t)) F (s.size : Int) false k.f0 k.f1 k.f2 k.f3 k.f4 k.f5) (fun n => by rw [millref5_Span.j0, if_neg hp]) (away (fun _ => by unfold toI; rw [if_neg hp]))
theorem ref_span (s : ByteArray) (hs : s.size ≤ 1048576) (t : Int) (h1 : -1 ≤ t) (h2 : t ≤ 255) (k : Ky) (hk : Fit k) (mk : Nat) (hm : k.f4 = (mk : Int)) (hm2 : mk < 1024) :
    Ev (fun n => millref5_Span.f n s k.f0 k.f1 k.f2 k.f3 k.f4 k.f5 t) (spanI s t k) := by
  have ha := hk.a; have hb := hk.b; have hc := hk.c; have hd := hk.d
  have hbl := beg_le s t k.f0 (modB k.f4)
  have hw1 := wrap64_id (x := k.f1 - 1) (by omega) (by omega)
  have hw2 : wrap64 ((s.size : Int) - (k.f1 - 1)) = (s.size : Int) - (k.f1 - 1) := by unfold wrap64; omega
  have hw3 := wrap64_id (x := ((begN s t k.f0 (modB k.f4) : Nat) : Int) + k.f1) (by omega) (by omega)
  have hw4 := wrap64_id (x := ((begN s t k.f0 (modB k.f4) : Nat) : Int) + k.f1 - 1) (by omega) (by omega)
  have hh : millref5_has.f k.f4 1 = some (modB k.f4) := by rw [hm]; exact has_one mk hm2
  refine Ev.congr (f := fun n => (millref5_Fields.f n s t).bind fun t136 => (millref5_begin.f n s t136 k.f0 (modB k.f4)).bind fun t140 => (if t140 > (wrap64 ((s.size : Int) - (wrap64 (k.f1 - 1)))) then (millref5_Span.j0 n s t136 (s.size : Int) k.f0 k.f1 k.f2 k.f3 k.f4 k.f5) else (millref5_Span.j0 n s t136 (wrap64 ((wrap64 (t140 + k.f1)) - 1)) k.f0 k.f1 k.f2 k.f3 k.f4 k.f5))) (fun n => by rw [millref5_Span.f]; simp only [hh, Option.bind_some]) ?_
  refine Ev.bind (fields_ref s hs t) ?_
  refine Ev.bind (ref_begin s hs t h1 h2 k.f0 ha hb (modB k.f4)) ?_
  rw [hw1, hw2, hw3, hw4]
  unfold spanI
  by_cases hx : ((begN s t k.f0 (modB k.f4) : Nat) : Int) > (s.size : Int) - (k.f1 - 1)
  · have hf : fromI s t k = (s.size : Int) := by unfold fromI; omega
    simp only [if_pos hx]
    rw [hf]
    exact ref_span0 s hs t h1 h2 k hk _ (by omega) (Int.le_refl _)
  · have hf : fromI s t k = ((begN s t k.f0 (modB k.f4) : Nat) : Int) + k.f1 - 1 := by unfold fromI; omega
    simp only [if_neg hx]
    rw [hf]
    exact ref_span0 s hs t h1 h2 k hk _ (by omega) (by omega)
end Go.Proofs.YtnnoegjgaelafaaDoor.Pr
namespace Go.Proofs.YtnnoegjgaelafaaDoor.Pr
open Go.RowKit Go.Proofs.YtnnoegjgaelafaaDoorW.PrintWords Go.Proofs.YtnnoegjgaelafaaDoorW.PrintLast
set_option linter.unusedVariables false

theorem place_there (s : ByteArray) (t : Int) : ∀ (n i : Nat), i ≤ s.size → (placeFrom s t i n).2 = true → (fieldsFrom s t i)[n]? = some ((placeFrom s t i n).1, behindN s t (placeFrom s t i n).1)
  | 0, i, hi, _ => by
    by_cases h : behindN s t i = s.size
    · rw [fields_last s t i h]; simp [placeFrom, h]
    · rw [fields_more s t i hi h]; rfl
  | n + 1, i, hi, hp => by
    unfold placeFrom at hp ⊢
    by_cases h : behindN s t i = s.size
    · rw [if_pos h] at hp; cases hp
    · rw [if_neg h] at hp ⊢
      rw [fields_more s t i hi h, List.getElem?_cons_succ]
      exact place_there s t n _ (next_le s t i hi h) hp
theorem place_not (s : ByteArray) (t : Int) : ∀ (n i : Nat), i ≤ s.size → (placeFrom s t i n).2 = false → (fieldsFrom s t i)[n]? = none
  | 0, i, hi, h => by cases h
  | n + 1, i, hi, hp => by
    unfold placeFrom at hp
    by_cases h : behindN s t i = s.size
    · rw [fields_last s t i h]; rfl
    · rw [if_neg h] at hp
      rw [fields_more s t i hi h, List.getElem?_cons_succ]
      exact place_not s t n _ (next_le s t i hi h) hp
/-- Where a key's part ends, the program's way. -/
def toP (s : ByteArray) (t : Int) (k : Ky) : Int :=
  if k.f2 > 0 then (if k.f3 > 0 then min (s.size : Int) ((begN s t k.f2 k.f5 : Nat) + k.f3) else if (placeFrom s t 0 (k.f2 - 1).toNat).2 then (behindN s t (placeFrom s t 0 (k.f2 - 1).toNat).1 : Nat) else (s.size : Int)) else (s.size : Int)
theorem toP_eq (s : ByteArray) (t : Int) (h1 : -1 ≤ t) (h2 : t ≤ 255) (k : Ky) : toP s t k = toI s t k := by
  unfold toP toI
  by_cases h : k.f2 > 0
  · rw [if_pos h, if_pos h]
    by_cases h3 : k.f3 > 0
    · rw [if_pos h3, if_pos h3]
    · rw [if_neg h3, if_neg h3]
      by_cases he : t = -1 ∧ s.size = 0
      · have hL : fieldsL s t = [] := by unfold fieldsL; rw [if_pos (.inr (.inr he))]
        have hp := place_le s t (k.f2 - 1).toNat 0 (Nat.zero_le _)
        have hb := behind_le s t (placeFrom s t 0 (k.f2 - 1).toNat).1 hp
        rw [hL]
        rw [List.getElem?_nil]
        split
        · show ((behindN s t (placeFrom s t 0 (k.f2 - 1).toNat).1 : Nat) : Int) = (s.size : Int)
          omega
        · rfl
      · have hL : fieldsL s t = fieldsFrom s t 0 := by unfold fieldsL; rw [if_neg (by omega)]
        rw [hL]
        cases hb : (placeFrom s t 0 (k.f2 - 1).toNat).2
        · rw [place_not s t _ 0 (Nat.zero_le _) hb]; rfl
        · rw [place_there s t _ 0 (Nat.zero_le _) hb]; rfl
  · rw [if_neg h, if_neg h]
theorem span_bounds (s : ByteArray) (t : Int) (h1 : -1 ≤ t) (h2 : t ≤ 255) (k : Ky) (hk : Fit k) : 0 ≤ (spanI s t k).1 ∧ (spanI s t k).1 ≤ (spanI s t k).2 ∧ (spanI s t k).2 ≤ (s.size : Int) := by
  have hf : 0 ≤ fromI s t k ∧ fromI s t k ≤ s.size := by have := hk.c; unfold fromI; omega
  have ht : toI s t k ≤ s.size := by
    rw [← toP_eq s t h1 h2]
    unfold toP
    have hp := place_le s t (k.f2 - 1).toNat 0 (Nat.zero_le _)
    have hb := behind_le s t (placeFrom s t 0 (k.f2 - 1).toNat).1 hp
    split
    · split
      · omega
      · split <;> omega
    · omega
  unfold spanI
  simp only
  omega
end Go.Proofs.YtnnoegjgaelafaaDoor.Pr
