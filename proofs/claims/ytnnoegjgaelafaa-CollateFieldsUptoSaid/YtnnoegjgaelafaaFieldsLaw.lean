/- CollateFields is true of every line and tab where what it reads is of bulk at most 1048576: over the printed functions, by fields_prog and fields_ref. -/
import Derived.Test.YtnnoegjgaelafaaFieldsEq
namespace Go.Proofs.Ytnnoegjgaelafaa.Pr
open Go.RowKit Go.Proofs.YtnnoegjgaelafaaW.PrintWords Go.Proofs.YtnnoegjgaelafaaW.PrintLast
set_option linter.unusedVariables false

theorem same_loop (L : List Sp) (hl : L.length ≤ 1048580) : ∀ (n i : Nat), L.length - i = n → Ev (fun k => milllaw5_sameSpans.l0 k L L (i : Int)) true := by
  intro n
  induction n with
  | zero =>
    intro i hn
    refine Ev.step (f := fun _ => some true) (fun k => by rw [milllaw5_sameSpans.l0, if_neg (by omega)]) (Ev.now _)
  | succ n ih =>
    intro i hn
    refine Ev.step (fun k => by rw [milllaw5_sameSpans.l0]) ?_
    have q1 : (i : Int) < (L.length : Int) := by omega
    have q2 : (0 : Int) ≤ (i : Int) := by omega
    have e : wrap64 ((i : Int) + 1) = ((i + 1 : Nat) : Int) := by rw [wrap64_id (by omega) (by omega)]; omega
    have hne : ¬ ((!(((rd_T27 L (i : Int)).f0) == ((rd_T27 L (i : Int)).f0)) || (!(((rd_T27 L (i : Int)).f1) == ((rd_T27 L (i : Int)).f1)))) = true) := by simp
    simp only [if_pos q1, if_pos q2, if_neg hne, e]
    exact ih (i + 1) (by omega)
theorem same_self (L : List Sp) (hl : L.length ≤ 1048580) : Ev (fun k => milllaw5_sameSpans.f k L L) true := by
  unfold milllaw5_sameSpans.f
  simp only [if_true]
  exact same_loop L hl _ 0 rfl
theorem fieldsFrom_length (s : ByteArray) (t : Int) : ∀ (n i : Nat), s.size + 1 - i = n → i ≤ s.size → (fieldsFrom s t i).length + i ≤ s.size + 1 := by
  intro n
  induction n using Nat.strongRecOn with
  | ind n ih =>
    intro i hn hi
    by_cases e : behindN s t i = s.size
    · rw [fields_last s t i e]; simp; omega
    · rw [fields_more s t i hi e]
      have h1 := behind_ge s t i hi
      have h2 := behind_le s t i hi
      have h3 : i < nextN t (behindN s t i) ∧ nextN t (behindN s t i) ≤ s.size := by
        unfold nextN; split
        · exact ⟨behind_gt s t ‹_› i (by omega), h2⟩
        · omega
      have := ih _ (by omega) (nextN t (behindN s t i)) rfl h3.2
      simp only [List.length_cons]
      omega
theorem fieldsL_length (s : ByteArray) (t : Int) : (fieldsL s t).length ≤ s.size + 1 := by
  unfold fieldsL; split
  · simp
  · have := fieldsFrom_length s t _ 0 rfl (by omega)
    omega
theorem fields_law (s : ByteArray) (hs : s.size ≤ 1048576) (t : Int) : Ev (fun k => milllaw5_CollateFields.f k s t) true := by
  unfold milllaw5_CollateFields.f
  refine Ev.bind (fields_prog s hs t) (Ev.bind (fields_ref s hs t) ?_)
  have hl : (spans (fieldsL s t)).length ≤ 1048580 := by
    have := fieldsL_length s t
    simp only [spans, List.length_map]; omega
  exact Ev.bind (same_self _ hl) (Ev.now _)
end Go.Proofs.Ytnnoegjgaelafaa.Pr
