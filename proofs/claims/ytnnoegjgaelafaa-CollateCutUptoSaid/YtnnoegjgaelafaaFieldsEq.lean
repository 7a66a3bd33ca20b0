/- The program's Fields and the reference's both answer fieldsL: over the printed functions. -/
import Derived.Test.YtnnoegjgaelafaaPrx2
import Derived.Test.YtnnoegjgaelafaaPrx3
import Derived.Test.YtnnoegjgaelafaaModel
import Derived.ShutString
namespace Go.Proofs.Ytnnoegjgaelafaa.Pr
open Go.RowKit Go.Proofs.YtnnoegjgaelafaaW.PrintWords Go.Proofs.YtnnoegjgaelafaaW.PrintLast
set_option linter.unusedVariables false

abbrev Sp := S27
def spanOf (p : Nat × Nat) : Sp := ⟨(p.1 : Int), (p.2 : Int)⟩
def spans (l : List (Nat × Nat)) : List Sp := l.map spanOf

theorem wrap64_id {x : Int} (h0 : 0 ≤ x) (h1 : x ≤ 140737488351240) : wrap64 x = x := by
  unfold wrap64; omega

theorem size_toList (s : ByteArray) : s.toList.length = s.size := by
  rw [Lib.toList_data, Array.length_toList]; rfl

/-! ### The program -/
theorem skip_some (s : ByteArray) (hs : s.size ≤ 140737488351232) (b : Bool) (i : Nat) (hi : i ≤ s.size) : collate_skip.f s (i : Int) 1 b = some ((skipTo s b i : Nat) : Int) := by
  unfold collate_skip.f
  rw [if_pos ⟨hs, by omega, by omega, rfl⟩]
  rfl
theorem behind_some (s : ByteArray) (hs : s.size ≤ 140737488351232) (t : Int) (ht : t ≤ 255) (i : Nat) (hi : i ≤ s.size) : collate_behind.f s (i : Int) t = some ((behindN s t i : Nat) : Int) := by
  unfold collate_behind.f behindN
  by_cases h : t < 0
  · rw [if_pos h, if_pos h, skip_some s hs true i hi, Option.bind_some, skip_some s hs false _ (skip_le s true i hi), Option.bind_some]
  · rw [if_neg h, if_neg h, if_pos (by omega), if_pos (by omega)]
    unfold strings_IndexByte.f
    rw [Option.bind_some, Int.toNat_natCast, index_tab s t (by omega) ht i hi]
    have h1 := tab_ge s t i hi
    have h2 := tab_le s t i hi
    by_cases hl : tabTo s t i < s.size
    · rw [if_pos hl, if_pos (by omega), wrap64_id (by omega) (by omega)]
      congr 1; omega
    · rw [if_neg hl, if_neg (by omega)]
      congr 1; omega

theorem fields_loop (s : ByteArray) (hs : s.size ≤ 1048576) (t : Int) (ht : t ≤ 255) : ∀ (n i : Nat) (acc : List Sp), s.size + 1 - i = n → i ≤ s.size → acc.length ≤ i →
    Ev (fun k => collate_Fields.l0 k s t acc (i : Int)) (acc ++ spans (fieldsFrom s t i)) := by
  intro n
  induction n using Nat.strongRecOn with
  | ind n ih =>
    intro i acc hn hi hl
    refine Ev.step (fun k => by rw [collate_Fields.l0]) ?_
    have hb := behind_some s (by omega) t ht i hi
    have h1 := behind_ge s t i hi
    have h2 := behind_le s t i hi
    have hlen : acc.length < 8796093022208 := by omega
    simp only [hb, Option.bind_some, if_pos hlen]
    by_cases e : behindN s t i = s.size
    · simp only [e, if_true]
      rw [fields_last s t i e]
      exact Ev.now _
    · have e2 : ¬ ((behindN s t i : Nat) : Int) = (s.size : Int) := by omega
      simp only [if_neg e2]
      rw [fields_more s t i hi e]
      have happ : ∀ x : List (Nat × Nat), acc ++ spans ((i, behindN s t i) :: x) = (acc ++ [(⟨(i : Int), ((behindN s t i : Nat) : Int)⟩ : Sp)]) ++ spans x := by
        intro x; simp [spans, spanOf]
      rw [happ]
      by_cases h0 : t < 0
      · have h3 := behind_gt s t h0 i (by omega)
        simp only [if_neg (show ¬ t ≥ 0 by omega), nextN, if_pos h0]
        exact ih _ (by omega) _ _ rfl (by omega) (by simp; omega)
      · simp only [if_pos (show t ≥ 0 by omega), nextN, if_neg h0, wrap64_id (show (0 : Int) ≤ ((behindN s t i : Nat) : Int) + 1 by omega) (by omega)]
        have := ih (s.size + 1 - (behindN s t i + 1)) (by omega) (behindN s t i + 1) (acc ++ [(⟨(i : Int), ((behindN s t i : Nat) : Int)⟩ : Sp)]) rfl (by omega) (by simp; omega)
        simpa using this
theorem fields_prog (s : ByteArray) (hs : s.size ≤ 1048576) (t : Int) : Ev (fun k => collate_Fields.f k s t) (spans (fieldsL s t)) := by
  unfold collate_Fields.f fieldsL
  by_cases h1 : t < -1
  · simp only [if_pos h1, if_pos (Or.inl h1 : t < -1 ∨ 255 < t ∨ t = -1 ∧ s.size = 0)]
    exact Ev.step (f := fun _ => some (spans [])) (fun k => by rw [collate_Fields.j0, if_pos (show true = true from rfl)]; rfl) (Ev.now _)
  · by_cases h2 : t > 255
    · simp only [if_neg h1, if_pos h2, if_pos (Or.inr (Or.inl h2) : t < -1 ∨ 255 < t ∨ t = -1 ∧ s.size = 0)]
      exact Ev.step (f := fun _ => some (spans [])) (fun k => by rw [collate_Fields.j0, if_pos (show true = true from rfl)]; rfl) (Ev.now _)
    · by_cases h3 : t = -1 ∧ s.size = 0
      · have he : (s.toList == ([] : List UInt8)) = true := by
          rw [beq_iff_eq]
          apply List.eq_nil_of_length_eq_zero
          rw [size_toList]; exact h3.2
        simp only [if_neg h1, if_neg h2, if_pos h3.1, if_pos (Or.inr (Or.inr h3) : t < -1 ∨ 255 < t ∨ t = -1 ∧ s.size = 0), he]
        exact Ev.step (f := fun _ => some (spans [])) (fun k => by rw [collate_Fields.j0, if_pos (show true = true from rfl)]; rfl) (Ev.now _)
      · have hl := fields_loop s hs t (by omega) _ 0 [] rfl (by omega) (by simp)
        have hg : ¬ (t < -1 ∨ 255 < t ∨ t = -1 ∧ s.size = 0) := by omega
        simp only [if_neg h1, if_neg h2, if_neg hg]
        have hfin : Ev (fun k => collate_Fields.j0 k s t false) (spans (fieldsFrom s t 0)) := by
          refine Ev.step (fun k => by rw [collate_Fields.j0, if_neg (by decide)]) ?_
          simpa using hl
        by_cases h4 : t = -1
        · have he : (s.toList == ([] : List UInt8)) = false := by
            rw [beq_eq_false_iff_ne]
            intro h
            apply h3
            refine ⟨h4, ?_⟩
            rw [← size_toList, h]; rfl
          simp only [if_pos h4, he]
          exact hfin
        · simp only [if_neg h4]
          exact hfin

/-! ### The reference -/
theorem blank_some (c : Int) : millref5_Blank.f c = some (blank c) := by
  unfold millref5_Blank.f blank
  by_cases h : c = 32
  · rw [if_pos h, h]; rfl
  · rw [if_neg h, beq_eq_false_iff_ne.2 h, Bool.or_false]
theorem bt_w (s : ByteArray) (i : Int) : wrap64 (bt s i) = bt s i := by
  have := bt_range s i
  exact wrap64_id (by omega) (by omega)
/-- Where a field without separator ends. -/
theorem behind_split (s : ByteArray) (t : Int) (ht : t < 0) (f i : Nat) (hf : f < i) (hi : i < s.size) (hb : i ≤ behindN s t f) :
    (isB s i = true ∧ isB s (i - 1) = false → behindN s t f = i) ∧ (¬ (isB s i = true ∧ isB s (i - 1) = false) → i + 1 ≤ behindN s t f) := by
  have e : behindN s t f = skipTo s false (skipTo s true f) := by unfold behindN; rw [if_pos ht]
  rw [e] at hb ⊢
  have h2 := skip_le s true f (by omega)
  have h3 := skip_ge s false _ h2
  have h4 := skip_le s false _ h2
  constructor
  · rintro ⟨a, b⟩
    apply Nat.le_antisymm _ hb
    apply Nat.le_of_not_lt
    intro hlt
    by_cases hm : skipTo s true f ≤ i
    · have := skip_in s false _ i h2 hm hlt
      rw [a] at this; cases this
    · have := skip_in s true f (i - 1) (by omega) (by omega) (by omega)
      rw [b] at this; cases this
  · intro hn
    apply Nat.lt_of_not_le
    intro hle
    have he : skipTo s false (skipTo s true f) = i := by omega
    have hat := skip_at s false _ h2 (by omega)
    rw [he] at hat
    have hbi : isB s i = true := by simpa using hat
    apply hn
    refine ⟨hbi, ?_⟩
    by_cases hm : skipTo s true f = i
    · have hat2 := skip_at s true f (by omega) (by omega)
      rw [hm] at hat2
      exact absurd hbi hat2
    · exact skip_in s false _ (i - 1) h2 (by omega) (by omega)
theorem ref_tab (s : ByteArray) (hs : s.size ≤ 1048576) (t : Int) (ht : 0 ≤ t) : ∀ (n f i : Nat) (acc : List Sp), s.size - i = n → f ≤ i → i ≤ s.size → acc.length ≤ f → i ≤ tabTo s t f →
    Ev (fun k => millref5_Fields.l0 k s t acc (f : Int) (i : Int)) (acc ++ spans (fieldsFrom s t f)) := by
  intro n
  induction n with
  | zero =>
    intro f i acc hn hf hi hl hb
    have he : i = s.size := by omega
    subst he
    refine Ev.step (fun k => by rw [millref5_Fields.l0]) ?_
    have hlen : acc.length < 8796093022208 := by omega
    have hbe : behindN s t f = s.size := by have := behind_le s t f hf; have e : behindN s t f = tabTo s t f := by unfold behindN; rw [if_neg (by omega)]
                                            omega
    simp only [if_neg (Int.lt_irrefl _), if_pos (show t ≥ 0 by omega), if_pos hlen]
    rw [fields_last s t f hbe]
    exact Ev.now _
  | succ n ih =>
    intro f i acc hn hf hi hl hb
    have hlt : i < s.size := by omega
    refine Ev.step (fun k => by rw [millref5_Fields.l0]) ?_
    simp only [if_pos (show (i : Int) < (s.size : Int) by omega), if_pos (show t ≥ 0 by omega), if_pos (show (0 : Int) ≤ (i : Int) by omega), bt_w]
    have hlen : acc.length < 8796093022208 := by omega
    have ebe : behindN s t f = tabTo s t f := by unfold behindN; rw [if_neg (by omega)]
    have htl := tab_le s t f (by omega)
    by_cases e : bt s (i : Int) = t
    · have hbe : behindN s t f = i := by
        rw [ebe]
        apply Nat.le_antisymm _ hb
        apply Nat.le_of_not_lt
        intro h
        exact tab_in s t f i (by omega) hf h e
      rw [beq_iff_eq.2 e]
      refine Ev.step (fun k => by rw [millref5_Fields.j2, if_pos (show true = true from rfl)]) ?_
      simp only [if_pos hlen, wrap64_id (show (0 : Int) ≤ (i : Int) + 1 by omega) (by omega)]
      refine Ev.step (fun k => by rw [millref5_Fields.j3, if_neg (by omega)]) ?_
      refine Ev.step (fun k => by rw [millref5_Fields.j4, if_neg (by decide)]) ?_
      simp only [wrap64_id (show (0 : Int) ≤ (i : Int) + 1 by omega) (by omega)]
      have hne : behindN s t f ≠ s.size := by omega
      rw [fields_more s t f (by omega) hne, hbe]
      have hnx : nextN t i = i + 1 := by unfold nextN; rw [if_neg (by omega)]
      rw [hnx]
      have := ih (i + 1) (i + 1) (acc ++ [(⟨(f : Int), (i : Int)⟩ : Sp)]) (by omega) (Nat.le_refl _) (by omega) (by simp; omega) (tab_ge s t _ (by omega))
      simpa [spans, spanOf] using this
    · rw [beq_eq_false_iff_ne.2 e]
      refine Ev.step (fun k => by rw [millref5_Fields.j2, if_neg (by decide)]) ?_
      refine Ev.step (fun k => by rw [millref5_Fields.j3, if_neg (by omega)]) ?_
      refine Ev.step (fun k => by rw [millref5_Fields.j4, if_neg (by decide)]) ?_
      simp only [wrap64_id (show (0 : Int) ≤ (i : Int) + 1 by omega) (by omega)]
      have hb2 : i + 1 ≤ tabTo s t f := by
        apply Nat.lt_of_not_le
        intro h
        have he : tabTo s t f = i := by omega
        have := tab_at s t f (by omega) (by omega)
        rw [he] at this
        exact e this
      have := ih f (i + 1) acc (by omega) (by omega) (by omega) hl hb2
      simpa using this
theorem ref_blank (s : ByteArray) (hs : s.size ≤ 1048576) (t : Int) (ht : t < 0) (h0 : 0 < s.size) : ∀ (n f i : Nat) (acc : List Sp), s.size - i = n → i ≤ s.size → acc.length ≤ f → (i = 0 ∧ f = 0 ∨ f < i ∧ i ≤ behindN s t f) →
    Ev (fun k => millref5_Fields.l0 k s t acc (f : Int) (i : Int)) (acc ++ spans (fieldsFrom s t f)) := by
  intro n
  induction n with
  | zero =>
    intro f i acc hn hi hl hb
    have he : i = s.size := by omega
    subst he
    refine Ev.step (fun k => by rw [millref5_Fields.l0]) ?_
    have hlen : acc.length < 8796093022208 := by omega
    have hbe : behindN s t f = s.size := by have := behind_le s t f (by omega); omega
    simp only [if_neg (Int.lt_irrefl _), if_neg (show ¬ t ≥ 0 by omega), if_pos (show (s.size : Int) > 0 by omega), if_pos hlen]
    rw [fields_last s t f hbe]
    exact Ev.now _
  | succ n ih =>
    intro f i acc hn hi hl hb
    have hlt : i < s.size := by omega
    refine Ev.step (fun k => by rw [millref5_Fields.l0]) ?_
    simp only [if_pos (show (i : Int) < (s.size : Int) by omega), if_neg (show ¬ t ≥ 0 by omega)]
    have hlen : acc.length < 8796093022208 := by omega
    refine Ev.step (fun k => by rw [millref5_Fields.j2, if_neg (by decide)]) ?_
    refine Ev.step (fun k => by rw [millref5_Fields.j3, if_pos ht]) ?_
    by_cases hi0 : i = 0
    · obtain rfl : f = 0 := by omega
      subst hi0
      refine Ev.step (fun k => by rw [millref5_Fields.j4, if_neg (by decide)]) ?_
      have h1 := behind_gt s t ht 0 h0
      have := ih 0 1 acc (by omega) (by omega) hl (Or.inr ⟨by omega, by omega⟩)
      have e1 : wrap64 (((0 : Nat) : Int) + 1) = ((1 : Nat) : Int) := by rw [wrap64_id (by omega) (by omega)]; rfl
      simp only [e1]
      exact this
    · have hd : decide ((i : Int) > 0) = true := decide_eq_true (by omega)
      obtain ⟨hfi, hbi⟩ : f < i ∧ i ≤ behindN s t f := by omega
      have q1 : (0 : Int) ≤ (i : Int) := by omega
      have q2 : (i : Int) < (s.size : Int) := by omega
      have q3 : (0 : Int) ≤ ((i - 1 : Nat) : Int) := by omega
      have q4 : ((i - 1 : Nat) : Int) < (s.size : Int) := by omega
      obtain ⟨hs1, hs2⟩ := behind_split s t ht f i hfi hlt hbi
      have e1 : wrap64 ((i : Int) - 1) = ((i - 1 : Nat) : Int) := by rw [wrap64_id (by omega) (by omega)]; omega
      have e2 : wrap64 ((i : Int) + 1) = ((i + 1 : Nat) : Int) := by rw [wrap64_id (by omega) (by omega)]; omega
      rw [hd]
      refine Ev.step (fun k => millref5_Fields.j4.eq_2 s t acc (f : Int) (i : Int) true k) ?_
      simp only [↓reduceIte, if_pos q1, if_pos q2, blank_some, Option.bind_some, e1, e2, if_pos q3, if_pos q4]
      clear e1 e2 hd
      have ha : blank (bt s (i : Int)) = isB s i := rfl
      have hp : blank (bt s ((i - 1 : Nat) : Int)) = isB s (i - 1) := rfl
      rw [ha, hp]
      by_cases hb1 : isB s i = true
      · by_cases hb2 : isB s (i - 1) = true
        · simp only [if_pos hb1, if_pos hb2]
          exact ih f (i + 1) acc (by omega) (by omega) hl (Or.inr ⟨by omega, hs2 (by rw [hb2]; simp)⟩)
        · have hbe := hs1 ⟨hb1, by simpa using hb2⟩
          simp only [if_pos hb1, if_neg hb2, if_pos hlen]
          rw [fields_more s t f (by omega) (by omega), hbe]
          have hnx : nextN t i = i := by unfold nextN; rw [if_pos ht]
          rw [hnx]
          have h3 := behind_gt s t ht i hlt
          have := ih i (i + 1) (acc ++ [(⟨(f : Int), (i : Int)⟩ : Sp)]) (by omega) (by omega) (by simp; omega) (Or.inr ⟨by omega, by omega⟩)
          simpa [spans, spanOf] using this
      · simp only [if_neg hb1]
        exact ih f (i + 1) acc (by omega) (by omega) hl (Or.inr ⟨by omega, hs2 (fun h => hb1 h.1)⟩)
theorem fields_ref (s : ByteArray) (hs : s.size ≤ 1048576) (t : Int) : Ev (fun k => millref5_Fields.f k s t) (spans (fieldsL s t)) := by
  unfold millref5_Fields.f fieldsL
  by_cases h1 : t < -1
  · simp only [if_pos h1, if_pos (Or.inl h1 : t < -1 ∨ 255 < t ∨ t = -1 ∧ s.size = 0)]
    exact Ev.step (f := fun _ => some (spans [])) (fun k => by rw [millref5_Fields.j0, if_pos (show true = true from rfl)]; rfl) (Ev.now _)
  · by_cases h2 : t > 255
    · simp only [if_neg h1, decide_eq_true h2, if_pos (Or.inr (Or.inl h2) : t < -1 ∨ 255 < t ∨ t = -1 ∧ s.size = 0)]
      exact Ev.step (f := fun _ => some (spans [])) (fun k => by rw [millref5_Fields.j0, if_pos (show true = true from rfl)]; rfl) (Ev.now _)
    · simp only [if_neg h1, decide_eq_false h2]
      refine Ev.step (fun k => by rw [millref5_Fields.j0, if_neg (by decide)]) ?_
      by_cases h3 : 0 ≤ t
      · rw [if_neg (by omega)]
        have := ref_tab s hs t h3 _ 0 0 [] rfl (Nat.le_refl _) (by omega) (by simp) (by omega)
        simpa using this
      · by_cases h4 : s.size = 0
        · rw [if_pos (by omega)]
          refine Ev.step (f := fun _ => some (spans [])) (fun k => by rw [millref5_Fields.l0, if_neg (by omega), if_neg (by omega), if_neg (by omega)]; rfl) (Ev.now _)
        · rw [if_neg (by omega)]
          have := ref_blank s hs t (by omega) (by omega) _ 0 0 [] rfl (by omega) (by simp) (Or.inl ⟨rfl, rfl⟩)
          simpa using this
end Go.Proofs.Ytnnoegjgaelafaa.Pr
